/- The contracts of the Go functions against the pure functions, printed by program. Conditions: each says them. -/
import Derived.Test.YtdkfiadoiapnbaaGreatC3
set_option linter.unusedVariables false
set_option linter.unusedSimpArgs false
set_option maxRecDepth 100000
set_option maxHeartbeats 4000000
namespace Go.Gx.Px
open Go.Proofs Go.RowKit
open K9
theorem c_Cmp_Compare_int {w0:World} (a1:Int) (a2:Int) (rr:Int) (hF:Cmp.Compare_int a1 a2=some rr) :
 Calls Tryz.prog 125 [(I a1),(I a2)].toArray w0 fun e w'=>∃v,e=.returned v∧Res w0 rr v w':=by
 refine Au Tryz.func125 z z ?_
 have hC0:=AA w0
 unfold Cmp.Compare_int at hF
 refine Ad<|Ae z z<|Ac<|Ad<|Ag z z<|be hF fun x1 hr1 hF=>cb Tryz.call152 z z (c_Cmp_isNaN_int a1 x1 hr1) fun w1 hB1=>have hC1:=hC0.grow hB1;Ae z z<|Ac<|Ad<|Ag z z<|be hF fun x2 hr2 hF=>cb Tryz.call152 z z (c_Cmp_isNaN_int a2 x2 hr2) fun w2 hB2=>have hC2:=hC1.grow hB2;Ae z z<|Ac<|A6<|Ad<|Ag z z<|Ac<|AI z (fun hc1=>?_) (fun hc1=>?_)
 ·replace hF:=AC hF hc1
  refine A6<|Ad<|Ag z z<|Ac<|AI z (fun hc2=>?_) (fun hc2=>?_)
  ·replace hF:=AC hF hc2
   refine Ad<|Ae z z<|Ac<|AP<|Az<|Az<|?_
   obtain rfl:=Aa hF
   exact A8 z z<|⟨_,z,B5 hC2 _⟩
  replace hF:=AD hF hc2
  refine AJ<|Am<|Ad<|Ae z z<|Ac<|AP<|Az<|?_
  obtain rfl:=Aa hF
  exact A8 z z<|⟨_,z,B5 hC2 _⟩
 replace hF:=AD hF hc1
 refine AJ<|Am<|A6<|Ad<|Ag z z<|Ac<|AI z (fun hc3=>?_) (fun hc3=>?_)
 ·replace hF:=AC hF hc3
  refine Ad<|Ae z z<|Ac<|AP<|Az<|?_
  obtain rfl:=Aa hF
  exact A8 z z<|⟨_,z,B5 hC2 _⟩
 replace hF:=AD hF hc3
 refine AJ<|Am<|A6<|Ad<|Ag z z<|Ag z z<|Bo z z z<|Ac<|AI z (fun hc4=>?_) (fun hc4=>?_)
 ·replace hF:=AC hF hc4
  refine Ad<|Ae z z<|Ac<|AP<|Az<|?_
  obtain rfl:=Aa hF
  exact A8 z z<|⟨_,z,B5 hC2 _⟩
 replace hF:=AD hF hc4
 refine AJ<|Am<|A6<|Ad<|Ag z z<|Ag z z<|C8 z z z<|Ac<|AI z (fun hc5=>?_) (fun hc5=>?_)
 ·replace hF:=AC hF hc5
  refine Ad<|Ae z z<|Ac<|AP<|Az<|?_
  obtain rfl:=Aa hF
  exact A8 z z<|⟨_,z,B5 hC2 _⟩
 replace hF:=AD hF hc5
 refine AJ<|Am<|Ad<|Ae z z<|Ac<|AP<|?_
 obtain rfl:=Aa hF
 exact A8 z z<|⟨_,z,B5 hC2 _⟩
theorem c_Slices_Compare_Lint_int {w0:World} (a1:(List Int)) (u1:Value) (g1:RO [] w0 u1 a1) (a2:(List Int)) (u2:Value) (g2:RO [] w0 u2 a2) (rr:Int) (hF:Slices.Compare_Lint_int a1 a2=some rr) :
 Calls Tryz.prog 101 [u1,u2].toArray w0 fun e w'=>∃v,e=.returned v∧Res w0 rr v w':=by
 refine Au Tryz.func101 z z ?_
 have hC0:=AA w0
 unfold Slices.Compare_Lint_int at hF
 refine Ad<|Ae z z<|Ac<|A6<|Ad<|Ag z z<|AZ Ah g1 z z<|Ag z z<|Ac<|be hF fun r1 hr1 hF=>Bd (fun l w=>.inl ()=r1∧l=[(0,u1),(1,u2)]∧Below w0.heap.size w0 w∧Ctx [] w0 w []) ?_ ?_
 ·refine AH<|wS (l':=[(0,u1),(1,u2),(9,u1),(10,(I (List.length a1:Int))),(11,(I 0))]) ⟨z,z,z,z,z,Ai⟩<|Bu (fun k l w=>∃x1:Int,l=[(0,u1),(1,u2),(9,u1),(10,(I (List.length a1:Int))),(11,(I x1))]∧Below w0.heap.size w0 w∧Ctx [] w0 w []∧Slices.Compare_Lint_int_l1 a1 a2 k x1=some r1) FUEL ⟨0,z,(Al _ _),hC0,hr1⟩<|?_
  clear hr1
  rintro k1 _ w1 ⟨x1,rfl,hB1,hC1,hL1⟩
  cases k1 with
  | zero=>rw [Slices.Compare_Lint_int_l1] at hL1; cases hL1
  | succ k1 =>
   rw [Slices.Compare_Lint_int_l1] at hL1
   refine Ad<|Bo z z z<|Ac<|A6<|AI z (fun hc1=>?_) (fun hc1=>?_)
   ·replace hL1:=AC hL1 hc1
    refine AJ<|Am<|A6<|AH<|Ad<|Ag z z<|be hL1 fun x2 hx1 hL1=>AG Ah ty3 g1 hx1 z z z fun b1 o1 h1=>A3 ty3 h1 hC1.keep z z fun v1 h2=>?_
    obtain rfl:=Bn h2
    refine Ae z z<|Ae z z<|Ac<|A6<|Ad<|Ag z z<|Ag z z<|AZ Ah g2 z z<|Cq z z z<|Ac<|AI z (fun hc2=>?_) (fun hc2=>?_)
    ·replace hL1:=AC hL1 hc2
     refine Ad<|Ae z z<|Ac<|AP<|Az<|Bk<|Az<|Az<|Bk<|Az<|Az<|?_
     obtain rfl:=Aa hL1
     dsimp only at hF
     obtain rfl:=Aa hF
     exact A8 z z<|⟨_,z,B5 hC1 _⟩
    replace hL1:=AD hL1 hc2
    refine AJ<|Am<|Ad<|Ag z z<|Ag z z<|be hL1 fun x3 hx2 hL1=>AG Ah ty3 g2 hx2 z z z fun b2 o2 h3=>A3 ty3 h3 hC1.keep z z fun v2 h4=>?_
    obtain rfl:=Bn h4
    refine Ae z z<|Ac<|Ad<|Ag z z<|Ag z z<|be hL1 fun x4 hr2 hL1=>ci Tryz.call125 z z (c_Cmp_Compare_int x2 x3 x4 hr2) fun w2 hB2=>have hC2:=hC1.grow hB2;Ae z z<|Ac<|Ad<|Ag z z<|C4 z z z<|Ac<|AI z (fun hc3=>?_) (fun hc3=>?_)
    ·replace hL1:=AC hL1 hc3
     refine Ad<|Ag z z<|Ae z z<|Ac<|AP<|Bk<|Az<|Az<|Bk<|Az<|Az<|?_
     obtain rfl:=Aa hL1
     dsimp only at hF
     obtain rfl:=Aa hF
     exact A8 z z<|⟨_,z,B5 hC2 _⟩
    replace hL1:=AD hL1 hc3
    exact AJ<|AM<|Am<|Bb<|Bj z z z<|Ag z z<|Ac<|Ak (l':=[(0,u1),(1,u2),(9,u1),(10,(I (List.length a1:Int))),(11,(I (w64 (x1+1))))]) ⟨z,z,z,z,z,Ai⟩<|⟨k1,Av _,w64 (x1+1),z,((Ap hB1).then hB2).below,hC2,hL1⟩
   replace hL1:=AD hL1 hc1
   refine Bt (A1 (A1 (Be ?_)))
   obtain rfl:=Aa hL1
   exact Ak (l':=[(0,u1),(1,u2)]) ⟨z,z,Ai⟩<|⟨z,z,(Ap hB1).below,hC1⟩
 rintro l2 _ w3 hs2 ⟨rfl,rfl,hB3,hC3⟩
 try dsimp only at hF
 refine AL hs2 ?_
 clear hs2
 refine A6<|Ad<|Ag z z<|AZ Ah g1 z z<|Ag z z<|AZ Ah g2 z z<|Bo z z z<|Ac<|AI z (fun hc4=>?_) (fun hc4=>?_)
 ·replace hF:=AC hF hc4
  refine Ad<|Ae z z<|Ac<|AP<|Az<|?_
  obtain rfl:=Aa hF
  exact A8 z z<|⟨_,z,B5 hC3 _⟩
 replace hF:=AD hF hc4
 refine AJ<|Am<|Ad<|Ae z z<|Ac<|AP<|?_
 obtain rfl:=Aa hF
 exact A8 z z<|⟨_,z,B5 hC3 _⟩
theorem c_Slices_Clone_Lint_int {w0:World} (a1:(List Int)) (u1:Value) (g1:RO [] w0 u1 a1) (rr:(List Int)) (hF:Slices.Clone_Lint_int a1=some rr) :
 Calls Tryz.prog 69 [u1].toArray w0 fun e w'=>∃v,e=.returned v∧Res w0 rr v w':=by
 refine Au Tryz.func69 z z ?_
 have hC0:=AA w0
 unfold Slices.Clone_Lint_int at hF
 refine Ad<|Ae z z<|Ac<|A6<|Ad<|Ag z z<|WL_isnil Ah g1 z z fun bn1 hb1=>Ac<|?_
 rcases btf bn1 with hc1 | hc1
 ·have ha:=hb1 hc1
  subst hc1
  subst ha
  replace hF:(some ([]):Option (List Int))=some rr:=by simpa [app] using hF
  refine CH z<|Ad<|Ae z z<|Ac<|AP<|Az<|?_
  obtain rfl:=Aa hF
  exact A8 z z<|⟨_,z,nil_res hC0⟩
 subst hc1
 refine CI z<|AJ<|Am<|Ad<|A2 (vs:=[]) hC0 Ah ty3 z z z z (by simp) z z fun b1 w1 hC1 hB1=>?_
 have hC2:=hC1.row0 (α:=Int)
 have hC3:=hC2.front 1 z
 dsimp only [List.eraseIdx,List.cons_append,List.nil_append,List.append_nil] at hC3
 have hC4:Ctx [] w0 w1 (Ab (.slice (some ⟨b1,0,none⟩) 0 0) (([]:List Int):List Int)::[]):=hC3.rowOwn (by simp [maxLen])
 refine Ag z z<|be hF fun x1 hx1 hF=>Bi (α:=Int) hC4 0 z g1 hC4.keep Ah ty3 z hx1 z z z fun v1 w2 hC5=>?_
 try dsimp only [List.set] at hC5
 refine Ae z z<|Ac<|AP<|?_
 obtain rfl:=Aa hF
 exact A8 z z<|⟨_,z,Co hC5 0 z⟩
theorem c_M_LeastDisclosure_c2_c1_c1 {w0:World} (a1:Int) (pb1:Nat) (ax1:(List Int)) (g1:ROAt [] w0 pb1 0 ax1) (pb2:Nat) (ax2:Int) (g2:ROAt [] w0 pb2 0 ax2) (rr:Bool) (hF:M.LeastDisclosure_c2_c1_c1 a1 ax1 ax2=some rr) :
 Calls Tryz.prog 72 [(I a1),(ptr pb1 0),(ptr pb2 0)].toArray w0 fun e w'=>∃v,e=.returned v∧Res w0 rr v w':=by
 refine Au Tryz.func72 z z ?_
 have hC0:=AA w0
 unfold M.LeastDisclosure_c2_c1_c1 at hF
 refine Ad<|Ae z z<|Ac<|A6<|B1 7 z hmix fun w1 hB1=>have hC1:=hC0.grow hB1;tm 1 z z z<|be hF fun x1 hx1 hF=>wAS (l':=[(0,(I a1)),(1,(ptr pb1 0)),(2,(ptr pb2 0)),(4,(.bool false)),(6,(I a1))]) ⟨z,z,z,z,z,Ai⟩<|Bw [⟨0,[],fun vs=>Ct [] w0 ax1,[]⟩,⟨2,[],fun vs=>Ci [] w0 x1,[]⟩,⟨3,[],fun vs=>Bh (I x1),[]⟩,⟨4,[],fun vs=>Bh (I ax2),[]⟩] [[],[0],[2],[]] 2 z (by kernel_rfl) (by kernel_rfl) z ?_ ?_
 ·refine An z ?_ ?_
  ·intro w2 hB2
   refine Ar<|⟨_,z,?_⟩
   exact A3 ty22 g1 (hC1.keep.then hB2) z z fun v1 h1=>Ac<|Ay (Al _ _) z z ⟨z,h1⟩
  refine An z ?_ ?_
  ·intro w2 hB2
   refine AK z z z ?_
   rintro v1 _ ⟨rfl,h1⟩ _
   refine Ar<|⟨_,z,?_⟩
   exact AG Ah ty3 h1 hx1 z z z fun b1 o1 h2=>Ac<|Ay (Al _ _) z z ⟨z,_,_,z,h2⟩
  refine An z ?_ ?_
  ·intro w2 hB2
   refine AK z z z ?_
   rintro _ _ ⟨rfl,b1,o1,rfl,h2⟩ _
   refine Ar<|⟨_,z,?_⟩
   refine A3 ty3 h2 (hC1.keep.then hB2) z z (fun v2 h3=>?_)
   obtain rfl:=Bn h3
   exact Ac<|Ay (Al _ _) z z ⟨z,z⟩
  refine An z ?_ ?_
  ·intro w2 hB2
   refine Ar<|⟨_,z,?_⟩
   refine A3 ty3 g2 (hC1.keep.then hB2) z z (fun v3 h4=>?_)
   obtain rfl:=Bn h4
   exact Ac<|Ay (Al _ _) z z ⟨z,z⟩
  exact Bp
 intro w3 hB3
 refine At z z z ?_
 rintro v1 _ ⟨rfl,h1⟩
 refine At z z z ?_
 rintro _ _ ⟨rfl,b1,o1,rfl,h2⟩
 refine At z z z ?_
 rintro _ _ ⟨rfl,rfl⟩
 refine At z z z ?_
 rintro _ _ ⟨rfl,rfl⟩
 refine B0 fun hn1 hb1=>have hC2:=hC1.grow hB3;tk 5 z z (fl_eql z z)<|BT z z z<|Ac<|ta 6 z z z<|dn<|Am<|AP<|?_
 obtain rfl:=Aa hF
 exact A8 z z<|⟨_,z,AR hC2 _⟩
theorem c_Slices_IndexFunc_Lint_int_M_LeastDisclosure_c2_c1_c1 {w0:World} (a1:(List Int)) (u1:Value) (g1:RO [] w0 u1 a1) (pb1:Nat) (ax1:(List Int)) (g2:ROAt [] w0 pb1 0 ax1) (pb2:Nat) (ax2:Int) (g3:ROAt [] w0 pb2 0 ax2) (rr:Int) (hF:Slices.IndexFunc_Lint_int_M_LeastDisclosure_c2_c1_c1 a1 ax1 ax2=some rr) :
 Calls Tryz.prog 99 [u1,(.func (.func 72) #[] #[(ptr pb1 0),(ptr pb2 0)])].toArray w0 fun e w'=>∃v,e=.returned v∧Res w0 rr v w':=by
 refine Au Ce z z ?_
 have hC0:=AA w0
 unfold Slices.IndexFunc_Lint_int_M_LeastDisclosure_c2_c1_c1 at hF
 refine Ad<|Ae z z<|Ac<|A6<|Ad<|Ag z z<|AZ Ah g1 z z<|Ag z z<|Ac<|be hF fun r1 hr1 hF=>Bd (fun l w=>.inl ()=r1∧l=[]∧Below w0.heap.size w0 w∧Ctx [] w0 w []) ?_ ?_
 ·refine AH<|wS (l':=[(0,u1),(1,(.func (.func 72) #[] #[(ptr pb1 0),(ptr pb2 0)])),(7,(I (List.length a1:Int))),(8,(I 0))]) ⟨z,z,z,z,Ai⟩<|Bu (fun k l w=>∃x1:Int,l=[(0,u1),(1,(.func (.func 72) #[] #[(ptr pb1 0),(ptr pb2 0)])),(7,(I (List.length a1:Int))),(8,(I x1))]∧Below w0.heap.size w0 w∧Ctx [] w0 w []∧Slices.IndexFunc_Lint_int_M_LeastDisclosure_c2_c1_c1_l1 a1 ax1 ax2 k x1=some r1) FUEL ⟨0,z,(Al _ _),hC0,hr1⟩<|?_
  clear hr1
  rintro k1 _ w1 ⟨x1,rfl,hB1,hC1,hL1⟩
  cases k1 with
  | zero=>rw [Slices.IndexFunc_Lint_int_M_LeastDisclosure_c2_c1_c1_l1] at hL1; cases hL1
  | succ k1 =>
   rw [Slices.IndexFunc_Lint_int_M_LeastDisclosure_c2_c1_c1_l1] at hL1
   refine Ad<|Bo z z z<|Ac<|A6<|AI z (fun hc1=>?_) (fun hc1=>?_)
   ·replace hL1:=AC hL1 hc1
    refine AJ<|Am<|A6<|AH<|Ad<|Ag z z<|Ae z z<|Ac<|Ad<|Ag z z<|Ag z z<|Ag z z<|be hL1 fun x2 hx1 hL1=>AG Ah ty3 g1 hx1 z z z fun b1 o1 h1=>A3 ty3 h1 hC1.keep z z fun v1 h2=>?_
    obtain rfl:=Bn h2
    refine be hL1 fun x3 hr2 hL1=>BH (cap:=[(ptr pb1 0),(ptr pb2 0)]) Tryz.call72 z z z (c_M_LeastDisclosure_c2_c1_c1 x2 pb1 ax1 (g2.now hC1.keep) pb2 ax2 (g3.now hC1.keep) x3 hr2) fun _ w2 hv1=>?_
    obtain ⟨rfl,hB2⟩:=BJ hv1
    have hC2:=hC1.grow hB2
    refine Ac<|AI z (fun hc2=>?_) (fun hc2=>?_)
    ·replace hL1:=AC hL1 hc2
     refine Ad<|Ag z z<|Ae z z<|Ac<|AP<|Bk<|Az<|Az<|Bk<|Az<|Az<|?_
     obtain rfl:=Aa hL1
     dsimp only at hF
     obtain rfl:=Aa hF
     exact A8 z z<|⟨_,z,B5 hC2 _⟩
    replace hL1:=AD hL1 hc2
    exact AJ<|AM<|Am<|Bb<|Bj z z z<|Ag z z<|Ac<|Ak (l':=[(0,u1),(1,(.func (.func 72) #[] #[(ptr pb1 0),(ptr pb2 0)])),(7,(I (List.length a1:Int))),(8,(I (w64 (x1+1))))]) ⟨z,z,z,z,Ai⟩<|⟨k1,Av _,w64 (x1+1),z,((Ap hB1).then hB2).below,hC2,hL1⟩
   replace hL1:=AD hL1 hc1
   refine Bt (A1 (A1 (Be ?_)))
   obtain rfl:=Aa hL1
   exact Ak (l':=[]) Ai<|⟨z,z,(Ap hB1).below,hC1⟩
 rintro l2 _ w3 hs2 ⟨rfl,rfl,hB3,hC3⟩
 try dsimp only at hF
 refine AL hs2 ?_
 clear hs2
 refine Ad<|Ae z z<|Ac<|AP<|?_
 obtain rfl:=Aa hF
 exact A8 z z<|⟨_,z,B5 hC3 _⟩
theorem c_Slices_ContainsFunc_Lint_int_M_LeastDisclosure_c2_c1_c1 {w0:World} (a1:(List Int)) (u1:Value) (g1:RO [] w0 u1 a1) (pb1:Nat) (ax1:(List Int)) (g2:ROAt [] w0 pb1 0 ax1) (pb2:Nat) (ax2:Int) (g3:ROAt [] w0 pb2 0 ax2) (rr:Bool) (hF:Slices.ContainsFunc_Lint_int_M_LeastDisclosure_c2_c1_c1 a1 ax1 ax2=some rr) :
 Calls Tryz.prog 71 [u1,(.func (.func 72) #[] #[(ptr pb1 0),(ptr pb2 0)])].toArray w0 fun e w'=>∃v,e=.returned v∧Res w0 rr v w':=by
 refine Au Cr z z ?_
 have hC0:=AA w0
 unfold Slices.ContainsFunc_Lint_int_M_LeastDisclosure_c2_c1_c1 at hF
 refine Ad<|Ae z z<|Ac<|Ad<|Ag z z<|Ag z z<|be hF fun x1 hr1 hF=>ci Cf z z (c_Slices_IndexFunc_Lint_int_M_LeastDisclosure_c2_c1_c1 a1 u1 (g1.now hC0.keep) pb1 ax1 (g2.now hC0.keep) pb2 ax2 (g3.now hC0.keep) x1 hr1) fun w1 hB1=>have hC1:=hC0.grow hB1;Cq z z z<|Ae z z<|Ac<|AP<|?_
 obtain rfl:=Aa hF
 exact A8 z z<|⟨_,z,AR hC1 _⟩
theorem c_M_LeastDisclosure_c2_c1 {w0:World} (a1:Int) (pb1:Nat) (ax1:(List Int)) (g1:ROAt [] w0 pb1 0 ax1) (pb2:Nat) (ax2:(List Int)) (g2:ROAt [] w0 pb2 0 ax2) (rr:Bool) (hF:M.LeastDisclosure_c2_c1 a1 ax1 ax2=some rr) :
 Calls Tryz.prog 70 [(I a1),(ptr pb1 0),(ptr pb2 0)].toArray w0 fun e w'=>∃v,e=.returned v∧Res w0 rr v w':=by
 refine Au Tryz.func70 z z ?_
 have hC0:=AA w0
 unfold M.LeastDisclosure_c2_c1 at hF
 refine Ad<|Bv (cs:=[(I a1)]) hC0 z z z fun b1 w1 hC1 hB1 hN1=>Ae z z<|Ac<|Ad<|A3 ty22 g1 hC1.keep z z fun v1 h1=>BL z z<|be hF fun x1 hr1 hF=>cb Cs z z (c_Slices_ContainsFunc_Lint_int_M_LeastDisclosure_c2_c1_c1 ax1 v1 (h1.now hC1.keep) pb2 ax2 (g2.now hC1.keep) b1 a1 (hC1.boxAt 0 z repw_int) x1 hr1) fun w2 hB2=>have hC2:=hC1.grow hB2;Ae z z<|Ac<|AP<|?_
 obtain rfl:=Aa hF
 exact A8 z z<|⟨_,z,AR hC2 _⟩
theorem c_Slices_IndexFunc_Lint_int_M_LeastDisclosure_c2_c1 {w0:World} (a1:(List Int)) (u1:Value) (g1:RO [] w0 u1 a1) (pb1:Nat) (ax1:(List Int)) (g2:ROAt [] w0 pb1 0 ax1) (pb2:Nat) (ax2:(List Int)) (g3:ROAt [] w0 pb2 0 ax2) (rr:Int) (hF:Slices.IndexFunc_Lint_int_M_LeastDisclosure_c2_c1 a1 ax1 ax2=some rr) :
 Calls Tryz.prog 99 [u1,(.func (.func 70) #[] #[(ptr pb1 0),(ptr pb2 0)])].toArray w0 fun e w'=>∃v,e=.returned v∧Res w0 rr v w':=by
 refine Au Ce z z ?_
 have hC0:=AA w0
 unfold Slices.IndexFunc_Lint_int_M_LeastDisclosure_c2_c1 at hF
 refine Ad<|Ae z z<|Ac<|A6<|Ad<|Ag z z<|AZ Ah g1 z z<|Ag z z<|Ac<|be hF fun r1 hr1 hF=>Bd (fun l w=>.inl ()=r1∧l=[]∧Below w0.heap.size w0 w∧Ctx [] w0 w []) ?_ ?_
 ·refine AH<|wS (l':=[(0,u1),(1,(.func (.func 70) #[] #[(ptr pb1 0),(ptr pb2 0)])),(7,(I (List.length a1:Int))),(8,(I 0))]) ⟨z,z,z,z,Ai⟩<|Bu (fun k l w=>∃x1:Int,l=[(0,u1),(1,(.func (.func 70) #[] #[(ptr pb1 0),(ptr pb2 0)])),(7,(I (List.length a1:Int))),(8,(I x1))]∧Below w0.heap.size w0 w∧Ctx [] w0 w []∧Slices.IndexFunc_Lint_int_M_LeastDisclosure_c2_c1_l1 a1 ax1 ax2 k x1=some r1) FUEL ⟨0,z,(Al _ _),hC0,hr1⟩<|?_
  clear hr1
  rintro k1 _ w1 ⟨x1,rfl,hB1,hC1,hL1⟩
  cases k1 with
  | zero=>rw [Slices.IndexFunc_Lint_int_M_LeastDisclosure_c2_c1_l1] at hL1; cases hL1
  | succ k1 =>
   rw [Slices.IndexFunc_Lint_int_M_LeastDisclosure_c2_c1_l1] at hL1
   refine Ad<|Bo z z z<|Ac<|A6<|AI z (fun hc1=>?_) (fun hc1=>?_)
   ·replace hL1:=AC hL1 hc1
    refine AJ<|Am<|A6<|AH<|Ad<|Ag z z<|Ae z z<|Ac<|Ad<|Ag z z<|Ag z z<|Ag z z<|be hL1 fun x2 hx1 hL1=>AG Ah ty3 g1 hx1 z z z fun b1 o1 h1=>A3 ty3 h1 hC1.keep z z fun v1 h2=>?_
    obtain rfl:=Bn h2
    refine be hL1 fun x3 hr2 hL1=>BH (cap:=[(ptr pb1 0),(ptr pb2 0)]) Tryz.call70 z z z (c_M_LeastDisclosure_c2_c1 x2 pb1 ax1 (g2.now hC1.keep) pb2 ax2 (g3.now hC1.keep) x3 hr2) fun _ w2 hv1=>?_
    obtain ⟨rfl,hB2⟩:=BJ hv1
    have hC2:=hC1.grow hB2
    refine Ac<|AI z (fun hc2=>?_) (fun hc2=>?_)
    ·replace hL1:=AC hL1 hc2
     refine Ad<|Ag z z<|Ae z z<|Ac<|AP<|Bk<|Az<|Az<|Bk<|Az<|Az<|?_
     obtain rfl:=Aa hL1
     dsimp only at hF
     obtain rfl:=Aa hF
     exact A8 z z<|⟨_,z,B5 hC2 _⟩
    replace hL1:=AD hL1 hc2
    exact AJ<|AM<|Am<|Bb<|Bj z z z<|Ag z z<|Ac<|Ak (l':=[(0,u1),(1,(.func (.func 70) #[] #[(ptr pb1 0),(ptr pb2 0)])),(7,(I (List.length a1:Int))),(8,(I (w64 (x1+1))))]) ⟨z,z,z,z,Ai⟩<|⟨k1,Av _,w64 (x1+1),z,((Ap hB1).then hB2).below,hC2,hL1⟩
   replace hL1:=AD hL1 hc1
   refine Bt (A1 (A1 (Be ?_)))
   obtain rfl:=Aa hL1
   exact Ak (l':=[]) Ai<|⟨z,z,(Ap hB1).below,hC1⟩
 rintro l2 _ w3 hs2 ⟨rfl,rfl,hB3,hC3⟩
 try dsimp only at hF
 refine AL hs2 ?_
 clear hs2
 refine Ad<|Ae z z<|Ac<|AP<|?_
 obtain rfl:=Aa hF
 exact A8 z z<|⟨_,z,B5 hC3 _⟩
theorem c_Slices_DeleteFunc_Lint_int_M_LeastDisclosure_c2_c1 {Fs:List (List Nat)} {w0:World} (a1:(List Int)) (u1:Value) (pb1:Nat) (ax1:(List Int)) (g1:ROAt Fs.flatten w0 pb1 0 ax1) (pb2:Nat) (ax2:(List Int)) (g2:ROAt Fs.flatten w0 pb2 0 ax2) (hH:Hold [Ab u1 (a1:(List Int))] w0 Fs) (hn:Fs.flatten.Nodup) (rr:(List Int)) (hF:Slices.DeleteFunc_Lint_int_M_LeastDisclosure_c2_c1 a1 ax1 ax2=some rr) :
 Calls Tryz.prog 64 [u1,(.func (.func 70) #[] #[(ptr pb1 0),(ptr pb2 0)])].toArray w0 fun e w'=>∃v,e=.returned v∧∃q0:Value,v=q0∧Ctx Fs.flatten w0 w' [Ab q0 (rr:(List Int))]:=by
 refine Au Tryz.func64 z z ?_
 have hC0:=BD hH hn
 unfold Slices.DeleteFunc_Lint_int_M_LeastDisclosure_c2_c1 at hF
 refine be hF fun x hx hF=>Ad<|Ae z z<|Ac<|Ad<|Ag z z<|Ag z z<|ci Cf z z (c_Slices_IndexFunc_Lint_int_M_LeastDisclosure_c2_c1 a1 u1 (hC0.ro 0 z) pb1 ax1 (g1.now (Aq _ _)) pb2 ax2 (g2.now (Aq _ _)) x hx) fun w1 hB1=>have hC1:=hC0.grow hB1;Ae z z<|Ac<|A6<|Ad<|Ag z z<|BT z z z<|?_
 by_cases hx1:x=-1
 ·rw [if_pos hx1] at hF
  obtain rfl:=Aa hF
  rw [decide_eq_true hx1]
  exact Ac<|CH z<|Ad<|Ag z z<|Ae z z<|Ac<|AP<|Az<|A8 z z<|⟨_,z,_,z,hC1⟩
 rw [if_neg hx1] at hF
 have hr:0 ≤ x∧x < (a1.length:Int):=Classical.byContradiction fun h=>by rw [if_neg h] at hF; cases hF
 rw [if_pos hr] at hF
 obtain ⟨m,rfl⟩:∃m:Nat,x=m:=⟨x.toNat,by omega⟩
 have hm:m < a1.length:=by omega
 have hlim:=(hC0.ro 0 z).lt
 simp only [maxLen] at hlim
 rw [Int.toNat_natCast] at hF
 rw [decide_eq_false hx1]
 refine Ac<|CI z<|AJ<|Am<|A6<|Ad<|Ag z z<|Bj z z z<|?_
 rw [show w64 ((m:Int)+1)=((m+1:Nat):Int) by rw [w64_id (by omega) (by omega)]; omega]
 refine Ae z z<|Ac<|?_
 obtain ⟨b,c,rfl,hc1,hc2,hD0⟩:=hC1.del_open hm
 have hml:(a1.take m).length=m:=by rw [List.length_take]; omega
 refine Bd (fun l w=>∃kept:List Int,∃g:Nat,l=[(0,.slice (some ⟨b,0,none⟩) a1.length c),(5,.int .i64 (kept.length:Int))]∧0 < g∧kept.length+g=a1.length∧kept=rr∧Ctx Fs.flatten w0 w [Item.del b c kept g ([]:List Int)]) ?_ ?_
 ·refine AH<|wS (l':=[(0,.slice (some ⟨b,0,none⟩) a1.length c),(1,(.func (.func 70) #[] #[(ptr pb1 0),(ptr pb2 0)])),(5,.int .i64 (m:Int)),(6,.int .i64 ((m+1:Nat):Int))]) ⟨z,z,z,z,Ai⟩<|Bu (fun k l w=>∃kept:List Int,∃g:Nat,∃rest:List Int,l=[(0,.slice (some ⟨b,0,none⟩) a1.length c),(1,(.func (.func 70) #[] #[(ptr pb1 0),(ptr pb2 0)])),(5,.int .i64 (kept.length:Int)),(6,.int .i64 ((kept.length+g:Nat):Int))]∧0 < g∧kept.length+g+rest.length=a1.length∧dfl (fun e=>M.LeastDisclosure_c2_c1 e ax1 ax2) kept rest=some rr∧k=rest.length∧Ctx Fs.flatten w0 w [Item.del b c kept g rest]) (a1.drop (m+1)).length ⟨a1.take m,1,a1.drop (m+1),by rw [hml],by omega,by rw [hml,List.length_drop]; omega,hF,z,hD0⟩<|?_
  clear hF hD0
  rintro k1 _ w2 ⟨kept,g,rest,rfl,hg,hlen,hL,hk,hD⟩
  refine A6<|Ad<|Ag z z<|Ag z z<|WL_len_raw Ah z z<|Bo z z z<|?_
  cases rest with
  | nil =>
   have hq:=Aa hL
   simp only [List.length_nil,Nat.add_zero] at hlen
   rw [decide_eq_false (show ¬ ((kept.length+g:Nat):Int) < (a1.length:Int) by omega)]
   exact Ac<|CI z<|Bt<|A1<|A1<|Be<|Ak (l':=[(0,.slice (some ⟨b,0,none⟩) a1.length c),(5,.int .i64 (kept.length:Int))]) ⟨z,z,Ai⟩<|⟨kept,g,z,hg,hlen,hq,hD⟩
  | cons x rest =>
   simp only [List.length_cons] at hlen hk
   rw [decide_eq_true (show ((kept.length+g:Nat):Int) < (a1.length:Int) by omega)]
   refine Ac<|CH z<|AJ<|Am<|A6<|AH<|Ad<|Ag z z<|Ag z z<|CB Ah ty3 (show kept.length+g < a1.length by omega) z z z<|?_
   obtain ⟨cs,hcs,hD1⟩:=hD.del_head
   obtain ⟨hro,row,T,hh,hrow⟩:=hD1.delh_row
   refine WL_load_raw ty3 hh (by rw [Nat.zero_add]; exact hrow) hcs z z ?_
   obtain rfl:=cells_of_int hcs (Bn hro)
   rw [show mkv (Rep.agg Int) [(I x)]=(I x) from z]
   refine Ae z z<|Ac<|Ad<|Ag z z<|Ag z z<|?_
   obtain ⟨q,hq,hL⟩:=BX (show (M.LeastDisclosure_c2_c1 x ax1 ax2).bind (fun b=>dfl (fun e=>M.LeastDisclosure_c2_c1 e ax1 ax2) (if b then kept else kept ++ [x]) rest)=some rr from hL)
   refine BH (cap:=[(ptr pb1 0),(ptr pb2 0)]) Tryz.call70 z z z (c_M_LeastDisclosure_c2_c1 x pb1 ax1 (g1.now hD1.keep) pb2 ax2 (g2.now hD1.keep) q hq) ?_
   intro _ w5 hv2
   obtain ⟨rfl,hB5⟩:=BJ hv2
   have hD4:=hD1.grow hB5
   refine Bx z z<|Ac<|AI z (fun hq1=>?_) (fun hq1=>?_)
   ·have hqf:q=false:=by simpa using hq1
    rw [hqf] at hL
    rw [if_neg (by simp)] at hL
    refine Ad<|Ag z z<|Ag z z<|Ag z z<|CB Ah ty3 (show kept.length < a1.length by omega) z z z<|WL_store_del hD4 hg ty3 z z z fun w6 hD5=>Ac<|Bb<|Ag z z<|Bj z z z<|?_
    rw [show w64 ((kept.length:Int)+1)=((kept ++ [x]).length:Int) by rw [w64_id (by omega) (by omega),List.length_append]; rfl]
    refine Ae z z<|Ac<|AM<|Am<|Bb<|Ag z z<|Bj z z z<|?_
    rw [show w64 (((kept.length+g:Nat):Int)+1)=(((kept ++ [x]).length+g:Nat):Int) by rw [w64_id (by omega) (by omega),List.length_append]; simp only [List.length_cons,List.length_nil]; omega]
    exact Ae z z<|Ac<|Ak (l':=[(0,.slice (some ⟨b,0,none⟩) a1.length c),(1,(.func (.func 70) #[] #[(ptr pb1 0),(ptr pb2 0)])),(5,.int .i64 ((kept ++ [x]).length:Int)),(6,.int .i64 (((kept ++ [x]).length+g:Nat):Int))]) ⟨z,z,z,z,Ai⟩<|⟨rest.length,by omega,kept ++ [x],g,rest,z,hg,by rw [List.length_append]; simp only [List.length_cons,List.length_nil]; omega,hL,z,hD5⟩
   have hqt:q=true:=by simpa using hq1
   rw [hqt] at hL
   rw [if_pos z] at hL
   refine AJ<|AM<|Am<|Bb<|Ag z z<|Bj z z z<|?_
   rw [show w64 (((kept.length+g:Nat):Int)+1)=((kept.length+(g+1):Nat):Int) by rw [w64_id (by omega) (by omega)]; omega]
   exact Ae z z<|Ac<|Ak (l':=[(0,.slice (some ⟨b,0,none⟩) a1.length c),(1,(.func (.func 70) #[] #[(ptr pb1 0),(ptr pb2 0)])),(5,.int .i64 (kept.length:Int)),(6,.int .i64 ((kept.length+(g+1):Nat):Int))]) ⟨z,z,z,z,Ai⟩<|have hD5:=hD4.del_skip;⟨rest.length,by omega,kept,g+1,rest,z,by omega,by omega,hL,z,hD5⟩
 rintro l2 _ w8 hs2 ⟨kept,g,rfl,hg,hlen,rfl,hD⟩
 refine AL hs2 ?_
 clear hs2
 exact Ad<|Ag z z<|Ag z z<|WL_sl_l Ah ty3 (show kept.length < c by omega) (show kept.length ≤ a1.length by omega) hc1 z z z<|WL_clear_del hD Ah ty3 zc3 (fac z<|fa0) hlen.symm z hg fun w9 hD9=>Ac<|Ad<|Ag z z<|Ag z z<|WL_sl_h Ah ty3 (hi:=kept.length) (by omega) (by omega) z z z<|Ae z z<|Ac<|AP<|A8 z z<|⟨_,z,_,z,hD9⟩
theorem c_M_LeastDisclosure_c2 {w0:World} (a1:(List Int)) (u1:Value) (g1:RO [] w0 u1 a1) (pb1:Nat) (ax1:(List (Int × (List Int) × Int × Int × Int))) (g2:ROAt [] w0 pb1 0 ax1) (pb2:Nat) (ax2:((List Int) × (List (Int × (List Int))))) (g3:ROAt [] w0 pb2 0 ax2) (pb3:Nat) (ax3:(List Int)) (g4:ROAt [] w0 pb3 0 ax3) (rr:Bool) (hF:M.LeastDisclosure_c2 a1 ax1 ax2 ax3=some rr) :
 Calls Tryz.prog 68 [u1,(ptr pb1 0),(ptr pb2 0),(ptr pb3 0)].toArray w0 fun e w'=>∃v,e=.returned v∧Res w0 rr v w':=by
 refine Au Tryz.func68 z z ?_
 have hC0:=AA w0
 unfold M.LeastDisclosure_c2 at hF
 refine Ad<|Bv (cs:=[u1]) hC0 (Cj g1) z z fun b1 w1 hC1 hB1 hN1=>Ae z z<|Ac<|be hF fun r1 hr1 hF=>BA (fun l w=>∃x1:Bool,x1=r1∧l=[(7,(.bool x1))]∧Ctx [] w0 w []) ?_ ?_
 ·refine B1 12 z hmix fun w3 hB3=>have hC3:=hC1.grow hB3;tk 4 z z (fl_makeFunc z)<|BL z z<|Ac<|WA_all3 (i:=0) (j:=1) (m:=2) (by kernel_rfl) z z z ?_ ?_ ?_
  ·refine A3 ty33 g2 hC3.keep z z fun v1 h1=>Ac<|BM (i:=1) (j:=2) (by kernel_rfl) z z ?_ ?_
   ·refine A3 ty37 g3 hC3.keep z z (fun v2 h2=>?_)
    obtain ⟨v3,v4,rfl,h3,h4⟩:=Cp h2
    refine Ac<|oe 2 z<|A3 ty22 g4 hC3.keep z z fun v5 h5=>Ac<|be hr1 fun x2 hr2 hr1=>oe 3 z<|A7 BW z z (c_Slices_Clone_Lint_int ax3 v5 (h5.now hC3.keep) x2 hr2)<|?_
    rintro v6 w4 ⟨hB4,F1,hv1,hn1,hb1⟩
    have hC4:=hC3.push hB4 (A:=Ab v6 x2) hv1 hn1 hb1
    refine Ac<|be hr1 fun x3 hr3 hr1=>oe 5 z<|?_
    obtain ⟨Fs1,hH1,hn2,hF1,hO1,hX1,hb2⟩:=BF (As:=[Af b1 [u1]]) [Ab v6 (x2:(List Int))] hC4
    refine A7 B7 z z (c_Slices_DeleteFunc_Lint_int_M_LeastDisclosure_c2_c1 x2 v6 b1 a1 (roat_box (hX1 0 _ _ z) (repd_slice (Bf g1 hC4.keep hF1))) pb3 ax3 (ROAt.lent g4 hC4.keep hF1) hH1 hn2 x3 hr3) ?_
    rintro v7 w5 ⟨_,rfl,hq1⟩
    have hC6:Ctx [] w0 w5 [Ab v7 (x3:(List Int)),Af b1 [u1]]:=hb2 _ _ hq1
    refine Ac<|be hr1 fun x4 hr4 hr1=>oe 6 z<|A7 B6 z z (c_M_privateOrder ax1 v1 (h1.now hC6.keep) ax2 v3 (h3.now hC6.keep) v4 (h4.now hC6.keep) x3 v7 ((hC6.ro 0 z).now (Aq _ _)) x4 hr4)<|?_
    rintro _ w6 ⟨hB5,v8,v9,F2,F3,rfl,hv2,hv3,hn3,hb3⟩
    obtain ⟨rfl,rfl⟩:=val_bool hv3
    have hC7:=hC6.pushL hB5 (Bs:=[Ab v8 x4.1]) (Fs:=[F2]) ⟨F2,_,z,hv2,z⟩ (by simpa using hn3) (fun b h=>hb3 b (by simpa using h))
    refine Ac<|tm 7 z z z<|tk 8 z z (Bq z z)<|AF z z z<|Ac<|tk 9 z z (Bq z z)<|AF z z z<|Ac<|ta 10 z z z<|ta 11 z z z<|dn<|?_
    obtain rfl:=Aa hr1
    have hC8:=hC7.h0
    exact Ak (l':=[(7,(.bool x4.2))]) ⟨z,Ai⟩<|⟨x4.2,z,z,hC8⟩
   refine A3 ty22 g4 hC3.keep z z fun v2 h2=>Ac<|BM (i:=1) (j:=3) (by kernel_rfl) z z ?_ ?_
   ·refine A3 ty37 g3 hC3.keep z z (fun v3 h3=>?_)
    obtain ⟨v4,v5,rfl,h4,h5⟩:=Cp h3
    refine Ac<|be hr1 fun x2 hr2 hr1=>oe 3 z<|A7 BW z z (c_Slices_Clone_Lint_int ax3 v2 (h2.now hC3.keep) x2 hr2)<|?_
    rintro v6 w4 ⟨hB4,F1,hv1,hn1,hb1⟩
    have hC4:=hC3.push hB4 (A:=Ab v6 x2) hv1 hn1 hb1
    refine Ac<|be hr1 fun x3 hr3 hr1=>oe 5 z<|?_
    obtain ⟨Fs1,hH1,hn2,hF1,hO1,hX1,hb2⟩:=BF (As:=[Af b1 [u1]]) [Ab v6 (x2:(List Int))] hC4
    refine A7 B7 z z (c_Slices_DeleteFunc_Lint_int_M_LeastDisclosure_c2_c1 x2 v6 b1 a1 (roat_box (hX1 0 _ _ z) (repd_slice (Bf g1 hC4.keep hF1))) pb3 ax3 (ROAt.lent g4 hC4.keep hF1) hH1 hn2 x3 hr3) ?_
    rintro v7 w5 ⟨_,rfl,hq1⟩
    have hC6:Ctx [] w0 w5 [Ab v7 (x3:(List Int)),Af b1 [u1]]:=hb2 _ _ hq1
    refine Ac<|be hr1 fun x4 hr4 hr1=>oe 6 z<|A7 B6 z z (c_M_privateOrder ax1 v1 (h1.now hC6.keep) ax2 v4 (h4.now hC6.keep) v5 (h5.now hC6.keep) x3 v7 ((hC6.ro 0 z).now (Aq _ _)) x4 hr4)<|?_
    rintro _ w6 ⟨hB5,v8,v9,F2,F3,rfl,hv2,hv3,hn3,hb3⟩
    obtain ⟨rfl,rfl⟩:=val_bool hv3
    have hC7:=hC6.pushL hB5 (Bs:=[Ab v8 x4.1]) (Fs:=[F2]) ⟨F2,_,z,hv2,z⟩ (by simpa using hn3) (fun b h=>hb3 b (by simpa using h))
    refine Ac<|tm 7 z z z<|tk 8 z z (Bq z z)<|AF z z z<|Ac<|tk 9 z z (Bq z z)<|AF z z z<|Ac<|ta 10 z z z<|ta 11 z z z<|dn<|?_
    obtain rfl:=Aa hr1
    have hC8:=hC7.h0
    exact Ak (l':=[(7,(.bool x4.2))]) ⟨z,Ai⟩<|⟨x4.2,z,z,hC8⟩
   refine be hr1 fun x2 hr2 hr1=>A7 BW z z (c_Slices_Clone_Lint_int ax3 v2 (h2.now hC3.keep) x2 hr2)<|?_
   rintro v3 w4 ⟨hB4,F1,hv1,hn1,hb1⟩
   have hC4:=hC3.push hB4 (A:=Ab v3 x2) hv1 hn1 hb1
   refine Ac<|BM (i:=1) (j:=5) (by kernel_rfl) z z ?_ ?_
   ·refine A3 ty37 g3 hC4.keep z z (fun v4 h3=>?_)
    obtain ⟨v5,v6,rfl,h4,h5⟩:=Cp h3
    refine Ac<|be hr1 fun x3 hr3 hr1=>oe 5 z<|?_
    obtain ⟨Fs1,hH1,hn2,hF1,hO1,hX1,hb2⟩:=BF (As:=[Af b1 [u1]]) [Ab v3 (x2:(List Int))] hC4
    refine A7 B7 z z (c_Slices_DeleteFunc_Lint_int_M_LeastDisclosure_c2_c1 x2 v3 b1 a1 (roat_box (hX1 0 _ _ z) (repd_slice (Bf g1 hC4.keep hF1))) pb3 ax3 (ROAt.lent g4 hC4.keep hF1) hH1 hn2 x3 hr3) ?_
    rintro v7 w5 ⟨_,rfl,hq1⟩
    have hC6:Ctx [] w0 w5 [Ab v7 (x3:(List Int)),Af b1 [u1]]:=hb2 _ _ hq1
    refine Ac<|be hr1 fun x4 hr4 hr1=>oe 6 z<|A7 B6 z z (c_M_privateOrder ax1 v1 (h1.now hC6.keep) ax2 v5 (h4.now hC6.keep) v6 (h5.now hC6.keep) x3 v7 ((hC6.ro 0 z).now (Aq _ _)) x4 hr4)<|?_
    rintro _ w6 ⟨hB5,v8,v9,F2,F3,rfl,hv2,hv3,hn3,hb3⟩
    obtain ⟨rfl,rfl⟩:=val_bool hv3
    have hC7:=hC6.pushL hB5 (Bs:=[Ab v8 x4.1]) (Fs:=[F2]) ⟨F2,_,z,hv2,z⟩ (by simpa using hn3) (fun b h=>hb3 b (by simpa using h))
    refine Ac<|tm 7 z z z<|tk 8 z z (Bq z z)<|AF z z z<|Ac<|tk 9 z z (Bq z z)<|AF z z z<|Ac<|ta 10 z z z<|ta 11 z z z<|dn<|?_
    obtain rfl:=Aa hr1
    have hC8:=hC7.h0
    exact Ak (l':=[(7,(.bool x4.2))]) ⟨z,Ai⟩<|⟨x4.2,z,z,hC8⟩
   obtain ⟨x3,hr3,hr1⟩:=BX hr1
   obtain ⟨Fs1,hH1,hn2,hF1,hO1,hX1,hb2⟩:=BF (As:=[Af b1 [u1]]) [Ab v3 (x2:(List Int))] hC4
   refine A7 B7 z z (c_Slices_DeleteFunc_Lint_int_M_LeastDisclosure_c2_c1 x2 v3 b1 a1 (roat_box (hX1 0 _ _ z) (repd_slice (Bf g1 hC4.keep hF1))) pb3 ax3 (ROAt.lent g4 hC4.keep hF1) hH1 hn2 x3 hr3) ?_
   rintro v4 w5 ⟨_,rfl,hq1⟩
   have hC6:Ctx [] w0 w5 [Ab v4 (x3:(List Int)),Af b1 [u1]]:=hb2 _ _ hq1
   refine Ac<|oe 1 z<|A3 ty37 g3 hC6.keep z z fun v5 h3=>?_
   obtain ⟨v6,v7,rfl,h4,h5⟩:=Cp h3
   refine Ac<|be hr1 fun x4 hr4 hr1=>oe 6 z<|A7 B6 z z (c_M_privateOrder ax1 v1 (h1.now hC6.keep) ax2 v6 (h4.now hC6.keep) v7 (h5.now hC6.keep) x3 v4 ((hC6.ro 0 z).now (Aq _ _)) x4 hr4)<|?_
   rintro _ w6 ⟨hB5,v8,v9,F2,F3,rfl,hv2,hv3,hn3,hb3⟩
   obtain ⟨rfl,rfl⟩:=val_bool hv3
   have hC7:=hC6.pushL hB5 (Bs:=[Ab v8 x4.1]) (Fs:=[F2]) ⟨F2,_,z,hv2,z⟩ (by simpa using hn3) (fun b h=>hb3 b (by simpa using h))
   refine Ac<|tm 7 z z z<|tk 8 z z (Bq z z)<|AF z z z<|Ac<|tk 9 z z (Bq z z)<|AF z z z<|Ac<|ta 10 z z z<|ta 11 z z z<|dn<|?_
   obtain rfl:=Aa hr1
   have hC8:=hC7.h0
   exact Ak (l':=[(7,(.bool x4.2))]) ⟨z,Ai⟩<|⟨x4.2,z,z,hC8⟩
  ·refine A3 ty37 g3 hC3.keep z z (fun v1 h1=>?_)
   obtain ⟨v2,v3,rfl,h2,h3⟩:=Cp h1
   refine Ac<|BM (i:=0) (j:=2) (by kernel_rfl) z z ?_ ?_
   ·refine A3 ty33 g2 hC3.keep z z fun v4 h4=>Ac<|oe 2 z<|A3 ty22 g4 hC3.keep z z fun v5 h5=>Ac<|be hr1 fun x2 hr2 hr1=>oe 3 z<|A7 BW z z (c_Slices_Clone_Lint_int ax3 v5 (h5.now hC3.keep) x2 hr2)<|?_
    rintro v6 w4 ⟨hB4,F1,hv1,hn1,hb1⟩
    have hC4:=hC3.push hB4 (A:=Ab v6 x2) hv1 hn1 hb1
    refine Ac<|be hr1 fun x3 hr3 hr1=>oe 5 z<|?_
    obtain ⟨Fs1,hH1,hn2,hF1,hO1,hX1,hb2⟩:=BF (As:=[Af b1 [u1]]) [Ab v6 (x2:(List Int))] hC4
    refine A7 B7 z z (c_Slices_DeleteFunc_Lint_int_M_LeastDisclosure_c2_c1 x2 v6 b1 a1 (roat_box (hX1 0 _ _ z) (repd_slice (Bf g1 hC4.keep hF1))) pb3 ax3 (ROAt.lent g4 hC4.keep hF1) hH1 hn2 x3 hr3) ?_
    rintro v7 w5 ⟨_,rfl,hq1⟩
    have hC6:Ctx [] w0 w5 [Ab v7 (x3:(List Int)),Af b1 [u1]]:=hb2 _ _ hq1
    refine Ac<|be hr1 fun x4 hr4 hr1=>oe 6 z<|A7 B6 z z (c_M_privateOrder ax1 v4 (h4.now hC6.keep) ax2 v2 (h2.now hC6.keep) v3 (h3.now hC6.keep) x3 v7 ((hC6.ro 0 z).now (Aq _ _)) x4 hr4)<|?_
    rintro _ w6 ⟨hB5,v8,v9,F2,F3,rfl,hv2,hv3,hn3,hb3⟩
    obtain ⟨rfl,rfl⟩:=val_bool hv3
    have hC7:=hC6.pushL hB5 (Bs:=[Ab v8 x4.1]) (Fs:=[F2]) ⟨F2,_,z,hv2,z⟩ (by simpa using hn3) (fun b h=>hb3 b (by simpa using h))
    refine Ac<|tm 7 z z z<|tk 8 z z (Bq z z)<|AF z z z<|Ac<|tk 9 z z (Bq z z)<|AF z z z<|Ac<|ta 10 z z z<|ta 11 z z z<|dn<|?_
    obtain rfl:=Aa hr1
    have hC8:=hC7.h0
    exact Ak (l':=[(7,(.bool x4.2))]) ⟨z,Ai⟩<|⟨x4.2,z,z,hC8⟩
   refine A3 ty22 g4 hC3.keep z z fun v4 h4=>Ac<|BM (i:=0) (j:=3) (by kernel_rfl) z z ?_ ?_
   ·refine A3 ty33 g2 hC3.keep z z fun v5 h5=>Ac<|be hr1 fun x2 hr2 hr1=>oe 3 z<|A7 BW z z (c_Slices_Clone_Lint_int ax3 v4 (h4.now hC3.keep) x2 hr2)<|?_
    rintro v6 w4 ⟨hB4,F1,hv1,hn1,hb1⟩
    have hC4:=hC3.push hB4 (A:=Ab v6 x2) hv1 hn1 hb1
    refine Ac<|be hr1 fun x3 hr3 hr1=>oe 5 z<|?_
    obtain ⟨Fs1,hH1,hn2,hF1,hO1,hX1,hb2⟩:=BF (As:=[Af b1 [u1]]) [Ab v6 (x2:(List Int))] hC4
    refine A7 B7 z z (c_Slices_DeleteFunc_Lint_int_M_LeastDisclosure_c2_c1 x2 v6 b1 a1 (roat_box (hX1 0 _ _ z) (repd_slice (Bf g1 hC4.keep hF1))) pb3 ax3 (ROAt.lent g4 hC4.keep hF1) hH1 hn2 x3 hr3) ?_
    rintro v7 w5 ⟨_,rfl,hq1⟩
    have hC6:Ctx [] w0 w5 [Ab v7 (x3:(List Int)),Af b1 [u1]]:=hb2 _ _ hq1
    refine Ac<|be hr1 fun x4 hr4 hr1=>oe 6 z<|A7 B6 z z (c_M_privateOrder ax1 v5 (h5.now hC6.keep) ax2 v2 (h2.now hC6.keep) v3 (h3.now hC6.keep) x3 v7 ((hC6.ro 0 z).now (Aq _ _)) x4 hr4)<|?_
    rintro _ w6 ⟨hB5,v8,v9,F2,F3,rfl,hv2,hv3,hn3,hb3⟩
    obtain ⟨rfl,rfl⟩:=val_bool hv3
    have hC7:=hC6.pushL hB5 (Bs:=[Ab v8 x4.1]) (Fs:=[F2]) ⟨F2,_,z,hv2,z⟩ (by simpa using hn3) (fun b h=>hb3 b (by simpa using h))
    refine Ac<|tm 7 z z z<|tk 8 z z (Bq z z)<|AF z z z<|Ac<|tk 9 z z (Bq z z)<|AF z z z<|Ac<|ta 10 z z z<|ta 11 z z z<|dn<|?_
    obtain rfl:=Aa hr1
    have hC8:=hC7.h0
    exact Ak (l':=[(7,(.bool x4.2))]) ⟨z,Ai⟩<|⟨x4.2,z,z,hC8⟩
   refine be hr1 fun x2 hr2 hr1=>A7 BW z z (c_Slices_Clone_Lint_int ax3 v4 (h4.now hC3.keep) x2 hr2)<|?_
   rintro v5 w4 ⟨hB4,F1,hv1,hn1,hb1⟩
   have hC4:=hC3.push hB4 (A:=Ab v5 x2) hv1 hn1 hb1
   refine Ac<|BM (i:=0) (j:=5) (by kernel_rfl) z z ?_ ?_
   ·refine A3 ty33 g2 hC4.keep z z fun v6 h5=>Ac<|be hr1 fun x3 hr3 hr1=>oe 5 z<|?_
    obtain ⟨Fs1,hH1,hn2,hF1,hO1,hX1,hb2⟩:=BF (As:=[Af b1 [u1]]) [Ab v5 (x2:(List Int))] hC4
    refine A7 B7 z z (c_Slices_DeleteFunc_Lint_int_M_LeastDisclosure_c2_c1 x2 v5 b1 a1 (roat_box (hX1 0 _ _ z) (repd_slice (Bf g1 hC4.keep hF1))) pb3 ax3 (ROAt.lent g4 hC4.keep hF1) hH1 hn2 x3 hr3) ?_
    rintro v7 w5 ⟨_,rfl,hq1⟩
    have hC6:Ctx [] w0 w5 [Ab v7 (x3:(List Int)),Af b1 [u1]]:=hb2 _ _ hq1
    refine Ac<|be hr1 fun x4 hr4 hr1=>oe 6 z<|A7 B6 z z (c_M_privateOrder ax1 v6 (h5.now hC6.keep) ax2 v2 (h2.now hC6.keep) v3 (h3.now hC6.keep) x3 v7 ((hC6.ro 0 z).now (Aq _ _)) x4 hr4)<|?_
    rintro _ w6 ⟨hB5,v8,v9,F2,F3,rfl,hv2,hv3,hn3,hb3⟩
    obtain ⟨rfl,rfl⟩:=val_bool hv3
    have hC7:=hC6.pushL hB5 (Bs:=[Ab v8 x4.1]) (Fs:=[F2]) ⟨F2,_,z,hv2,z⟩ (by simpa using hn3) (fun b h=>hb3 b (by simpa using h))
    refine Ac<|tm 7 z z z<|tk 8 z z (Bq z z)<|AF z z z<|Ac<|tk 9 z z (Bq z z)<|AF z z z<|Ac<|ta 10 z z z<|ta 11 z z z<|dn<|?_
    obtain rfl:=Aa hr1
    have hC8:=hC7.h0
    exact Ak (l':=[(7,(.bool x4.2))]) ⟨z,Ai⟩<|⟨x4.2,z,z,hC8⟩
   obtain ⟨x3,hr3,hr1⟩:=BX hr1
   obtain ⟨Fs1,hH1,hn2,hF1,hO1,hX1,hb2⟩:=BF (As:=[Af b1 [u1]]) [Ab v5 (x2:(List Int))] hC4
   refine A7 B7 z z (c_Slices_DeleteFunc_Lint_int_M_LeastDisclosure_c2_c1 x2 v5 b1 a1 (roat_box (hX1 0 _ _ z) (repd_slice (Bf g1 hC4.keep hF1))) pb3 ax3 (ROAt.lent g4 hC4.keep hF1) hH1 hn2 x3 hr3) ?_
   rintro v6 w5 ⟨_,rfl,hq1⟩
   have hC6:Ctx [] w0 w5 [Ab v6 (x3:(List Int)),Af b1 [u1]]:=hb2 _ _ hq1
   refine Ac<|oe 0 z<|A3 ty33 g2 hC6.keep z z fun v7 h5=>Ac<|be hr1 fun x4 hr4 hr1=>oe 6 z<|A7 B6 z z (c_M_privateOrder ax1 v7 (h5.now hC6.keep) ax2 v2 (h2.now hC6.keep) v3 (h3.now hC6.keep) x3 v6 ((hC6.ro 0 z).now (Aq _ _)) x4 hr4)<|?_
   rintro _ w6 ⟨hB5,v8,v9,F2,F3,rfl,hv2,hv3,hn3,hb3⟩
   obtain ⟨rfl,rfl⟩:=val_bool hv3
   have hC7:=hC6.pushL hB5 (Bs:=[Ab v8 x4.1]) (Fs:=[F2]) ⟨F2,_,z,hv2,z⟩ (by simpa using hn3) (fun b h=>hb3 b (by simpa using h))
   refine Ac<|tm 7 z z z<|tk 8 z z (Bq z z)<|AF z z z<|Ac<|tk 9 z z (Bq z z)<|AF z z z<|Ac<|ta 10 z z z<|ta 11 z z z<|dn<|?_
   obtain rfl:=Aa hr1
   have hC8:=hC7.h0
   exact Ak (l':=[(7,(.bool x4.2))]) ⟨z,Ai⟩<|⟨x4.2,z,z,hC8⟩
  refine A3 ty22 g4 hC3.keep z z fun v1 h1=>Ac<|WA_all3 (i:=0) (j:=1) (m:=3) (by kernel_rfl) z z z ?_ ?_ ?_
  ·refine A3 ty33 g2 hC3.keep z z fun v2 h2=>Ac<|BM (i:=1) (j:=3) (by kernel_rfl) z z ?_ ?_
   ·refine A3 ty37 g3 hC3.keep z z (fun v3 h3=>?_)
    obtain ⟨v4,v5,rfl,h4,h5⟩:=Cp h3
    refine Ac<|be hr1 fun x2 hr2 hr1=>oe 3 z<|A7 BW z z (c_Slices_Clone_Lint_int ax3 v1 (h1.now hC3.keep) x2 hr2)<|?_
    rintro v6 w4 ⟨hB4,F1,hv1,hn1,hb1⟩
    have hC4:=hC3.push hB4 (A:=Ab v6 x2) hv1 hn1 hb1
    refine Ac<|be hr1 fun x3 hr3 hr1=>oe 5 z<|?_
    obtain ⟨Fs1,hH1,hn2,hF1,hO1,hX1,hb2⟩:=BF (As:=[Af b1 [u1]]) [Ab v6 (x2:(List Int))] hC4
    refine A7 B7 z z (c_Slices_DeleteFunc_Lint_int_M_LeastDisclosure_c2_c1 x2 v6 b1 a1 (roat_box (hX1 0 _ _ z) (repd_slice (Bf g1 hC4.keep hF1))) pb3 ax3 (ROAt.lent g4 hC4.keep hF1) hH1 hn2 x3 hr3) ?_
    rintro v7 w5 ⟨_,rfl,hq1⟩
    have hC6:Ctx [] w0 w5 [Ab v7 (x3:(List Int)),Af b1 [u1]]:=hb2 _ _ hq1
    refine Ac<|be hr1 fun x4 hr4 hr1=>oe 6 z<|A7 B6 z z (c_M_privateOrder ax1 v2 (h2.now hC6.keep) ax2 v4 (h4.now hC6.keep) v5 (h5.now hC6.keep) x3 v7 ((hC6.ro 0 z).now (Aq _ _)) x4 hr4)<|?_
    rintro _ w6 ⟨hB5,v8,v9,F2,F3,rfl,hv2,hv3,hn3,hb3⟩
    obtain ⟨rfl,rfl⟩:=val_bool hv3
    have hC7:=hC6.pushL hB5 (Bs:=[Ab v8 x4.1]) (Fs:=[F2]) ⟨F2,_,z,hv2,z⟩ (by simpa using hn3) (fun b h=>hb3 b (by simpa using h))
    refine Ac<|tm 7 z z z<|tk 8 z z (Bq z z)<|AF z z z<|Ac<|tk 9 z z (Bq z z)<|AF z z z<|Ac<|ta 10 z z z<|ta 11 z z z<|dn<|?_
    obtain rfl:=Aa hr1
    have hC8:=hC7.h0
    exact Ak (l':=[(7,(.bool x4.2))]) ⟨z,Ai⟩<|⟨x4.2,z,z,hC8⟩
   refine be hr1 fun x2 hr2 hr1=>A7 BW z z (c_Slices_Clone_Lint_int ax3 v1 (h1.now hC3.keep) x2 hr2)<|?_
   rintro v3 w4 ⟨hB4,F1,hv1,hn1,hb1⟩
   have hC4:=hC3.push hB4 (A:=Ab v3 x2) hv1 hn1 hb1
   refine Ac<|BM (i:=1) (j:=5) (by kernel_rfl) z z ?_ ?_
   ·refine A3 ty37 g3 hC4.keep z z (fun v4 h3=>?_)
    obtain ⟨v5,v6,rfl,h4,h5⟩:=Cp h3
    refine Ac<|be hr1 fun x3 hr3 hr1=>oe 5 z<|?_
    obtain ⟨Fs1,hH1,hn2,hF1,hO1,hX1,hb2⟩:=BF (As:=[Af b1 [u1]]) [Ab v3 (x2:(List Int))] hC4
    refine A7 B7 z z (c_Slices_DeleteFunc_Lint_int_M_LeastDisclosure_c2_c1 x2 v3 b1 a1 (roat_box (hX1 0 _ _ z) (repd_slice (Bf g1 hC4.keep hF1))) pb3 ax3 (ROAt.lent g4 hC4.keep hF1) hH1 hn2 x3 hr3) ?_
    rintro v7 w5 ⟨_,rfl,hq1⟩
    have hC6:Ctx [] w0 w5 [Ab v7 (x3:(List Int)),Af b1 [u1]]:=hb2 _ _ hq1
    refine Ac<|be hr1 fun x4 hr4 hr1=>oe 6 z<|A7 B6 z z (c_M_privateOrder ax1 v2 (h2.now hC6.keep) ax2 v5 (h4.now hC6.keep) v6 (h5.now hC6.keep) x3 v7 ((hC6.ro 0 z).now (Aq _ _)) x4 hr4)<|?_
    rintro _ w6 ⟨hB5,v8,v9,F2,F3,rfl,hv2,hv3,hn3,hb3⟩
    obtain ⟨rfl,rfl⟩:=val_bool hv3
    have hC7:=hC6.pushL hB5 (Bs:=[Ab v8 x4.1]) (Fs:=[F2]) ⟨F2,_,z,hv2,z⟩ (by simpa using hn3) (fun b h=>hb3 b (by simpa using h))
    refine Ac<|tm 7 z z z<|tk 8 z z (Bq z z)<|AF z z z<|Ac<|tk 9 z z (Bq z z)<|AF z z z<|Ac<|ta 10 z z z<|ta 11 z z z<|dn<|?_
    obtain rfl:=Aa hr1
    have hC8:=hC7.h0
    exact Ak (l':=[(7,(.bool x4.2))]) ⟨z,Ai⟩<|⟨x4.2,z,z,hC8⟩
   obtain ⟨x3,hr3,hr1⟩:=BX hr1
   obtain ⟨Fs1,hH1,hn2,hF1,hO1,hX1,hb2⟩:=BF (As:=[Af b1 [u1]]) [Ab v3 (x2:(List Int))] hC4
   refine A7 B7 z z (c_Slices_DeleteFunc_Lint_int_M_LeastDisclosure_c2_c1 x2 v3 b1 a1 (roat_box (hX1 0 _ _ z) (repd_slice (Bf g1 hC4.keep hF1))) pb3 ax3 (ROAt.lent g4 hC4.keep hF1) hH1 hn2 x3 hr3) ?_
   rintro v4 w5 ⟨_,rfl,hq1⟩
   have hC6:Ctx [] w0 w5 [Ab v4 (x3:(List Int)),Af b1 [u1]]:=hb2 _ _ hq1
   refine Ac<|oe 1 z<|A3 ty37 g3 hC6.keep z z fun v5 h3=>?_
   obtain ⟨v6,v7,rfl,h4,h5⟩:=Cp h3
   refine Ac<|be hr1 fun x4 hr4 hr1=>oe 6 z<|A7 B6 z z (c_M_privateOrder ax1 v2 (h2.now hC6.keep) ax2 v6 (h4.now hC6.keep) v7 (h5.now hC6.keep) x3 v4 ((hC6.ro 0 z).now (Aq _ _)) x4 hr4)<|?_
   rintro _ w6 ⟨hB5,v8,v9,F2,F3,rfl,hv2,hv3,hn3,hb3⟩
   obtain ⟨rfl,rfl⟩:=val_bool hv3
   have hC7:=hC6.pushL hB5 (Bs:=[Ab v8 x4.1]) (Fs:=[F2]) ⟨F2,_,z,hv2,z⟩ (by simpa using hn3) (fun b h=>hb3 b (by simpa using h))
   refine Ac<|tm 7 z z z<|tk 8 z z (Bq z z)<|AF z z z<|Ac<|tk 9 z z (Bq z z)<|AF z z z<|Ac<|ta 10 z z z<|ta 11 z z z<|dn<|?_
   obtain rfl:=Aa hr1
   have hC8:=hC7.h0
   exact Ak (l':=[(7,(.bool x4.2))]) ⟨z,Ai⟩<|⟨x4.2,z,z,hC8⟩
  ·refine A3 ty37 g3 hC3.keep z z (fun v2 h2=>?_)
   obtain ⟨v3,v4,rfl,h3,h4⟩:=Cp h2
   refine Ac<|BM (i:=0) (j:=3) (by kernel_rfl) z z ?_ ?_
   ·refine A3 ty33 g2 hC3.keep z z fun v5 h5=>Ac<|be hr1 fun x2 hr2 hr1=>oe 3 z<|A7 BW z z (c_Slices_Clone_Lint_int ax3 v1 (h1.now hC3.keep) x2 hr2)<|?_
    rintro v6 w4 ⟨hB4,F1,hv1,hn1,hb1⟩
    have hC4:=hC3.push hB4 (A:=Ab v6 x2) hv1 hn1 hb1
    refine Ac<|be hr1 fun x3 hr3 hr1=>oe 5 z<|?_
    obtain ⟨Fs1,hH1,hn2,hF1,hO1,hX1,hb2⟩:=BF (As:=[Af b1 [u1]]) [Ab v6 (x2:(List Int))] hC4
    refine A7 B7 z z (c_Slices_DeleteFunc_Lint_int_M_LeastDisclosure_c2_c1 x2 v6 b1 a1 (roat_box (hX1 0 _ _ z) (repd_slice (Bf g1 hC4.keep hF1))) pb3 ax3 (ROAt.lent g4 hC4.keep hF1) hH1 hn2 x3 hr3) ?_
    rintro v7 w5 ⟨_,rfl,hq1⟩
    have hC6:Ctx [] w0 w5 [Ab v7 (x3:(List Int)),Af b1 [u1]]:=hb2 _ _ hq1
    refine Ac<|be hr1 fun x4 hr4 hr1=>oe 6 z<|A7 B6 z z (c_M_privateOrder ax1 v5 (h5.now hC6.keep) ax2 v3 (h3.now hC6.keep) v4 (h4.now hC6.keep) x3 v7 ((hC6.ro 0 z).now (Aq _ _)) x4 hr4)<|?_
    rintro _ w6 ⟨hB5,v8,v9,F2,F3,rfl,hv2,hv3,hn3,hb3⟩
    obtain ⟨rfl,rfl⟩:=val_bool hv3
    have hC7:=hC6.pushL hB5 (Bs:=[Ab v8 x4.1]) (Fs:=[F2]) ⟨F2,_,z,hv2,z⟩ (by simpa using hn3) (fun b h=>hb3 b (by simpa using h))
    refine Ac<|tm 7 z z z<|tk 8 z z (Bq z z)<|AF z z z<|Ac<|tk 9 z z (Bq z z)<|AF z z z<|Ac<|ta 10 z z z<|ta 11 z z z<|dn<|?_
    obtain rfl:=Aa hr1
    have hC8:=hC7.h0
    exact Ak (l':=[(7,(.bool x4.2))]) ⟨z,Ai⟩<|⟨x4.2,z,z,hC8⟩
   refine be hr1 fun x2 hr2 hr1=>A7 BW z z (c_Slices_Clone_Lint_int ax3 v1 (h1.now hC3.keep) x2 hr2)<|?_
   rintro v5 w4 ⟨hB4,F1,hv1,hn1,hb1⟩
   have hC4:=hC3.push hB4 (A:=Ab v5 x2) hv1 hn1 hb1
   refine Ac<|BM (i:=0) (j:=5) (by kernel_rfl) z z ?_ ?_
   ·refine A3 ty33 g2 hC4.keep z z fun v6 h5=>Ac<|be hr1 fun x3 hr3 hr1=>oe 5 z<|?_
    obtain ⟨Fs1,hH1,hn2,hF1,hO1,hX1,hb2⟩:=BF (As:=[Af b1 [u1]]) [Ab v5 (x2:(List Int))] hC4
    refine A7 B7 z z (c_Slices_DeleteFunc_Lint_int_M_LeastDisclosure_c2_c1 x2 v5 b1 a1 (roat_box (hX1 0 _ _ z) (repd_slice (Bf g1 hC4.keep hF1))) pb3 ax3 (ROAt.lent g4 hC4.keep hF1) hH1 hn2 x3 hr3) ?_
    rintro v7 w5 ⟨_,rfl,hq1⟩
    have hC6:Ctx [] w0 w5 [Ab v7 (x3:(List Int)),Af b1 [u1]]:=hb2 _ _ hq1
    refine Ac<|be hr1 fun x4 hr4 hr1=>oe 6 z<|A7 B6 z z (c_M_privateOrder ax1 v6 (h5.now hC6.keep) ax2 v3 (h3.now hC6.keep) v4 (h4.now hC6.keep) x3 v7 ((hC6.ro 0 z).now (Aq _ _)) x4 hr4)<|?_
    rintro _ w6 ⟨hB5,v8,v9,F2,F3,rfl,hv2,hv3,hn3,hb3⟩
    obtain ⟨rfl,rfl⟩:=val_bool hv3
    have hC7:=hC6.pushL hB5 (Bs:=[Ab v8 x4.1]) (Fs:=[F2]) ⟨F2,_,z,hv2,z⟩ (by simpa using hn3) (fun b h=>hb3 b (by simpa using h))
    refine Ac<|tm 7 z z z<|tk 8 z z (Bq z z)<|AF z z z<|Ac<|tk 9 z z (Bq z z)<|AF z z z<|Ac<|ta 10 z z z<|ta 11 z z z<|dn<|?_
    obtain rfl:=Aa hr1
    have hC8:=hC7.h0
    exact Ak (l':=[(7,(.bool x4.2))]) ⟨z,Ai⟩<|⟨x4.2,z,z,hC8⟩
   obtain ⟨x3,hr3,hr1⟩:=BX hr1
   obtain ⟨Fs1,hH1,hn2,hF1,hO1,hX1,hb2⟩:=BF (As:=[Af b1 [u1]]) [Ab v5 (x2:(List Int))] hC4
   refine A7 B7 z z (c_Slices_DeleteFunc_Lint_int_M_LeastDisclosure_c2_c1 x2 v5 b1 a1 (roat_box (hX1 0 _ _ z) (repd_slice (Bf g1 hC4.keep hF1))) pb3 ax3 (ROAt.lent g4 hC4.keep hF1) hH1 hn2 x3 hr3) ?_
   rintro v6 w5 ⟨_,rfl,hq1⟩
   have hC6:Ctx [] w0 w5 [Ab v6 (x3:(List Int)),Af b1 [u1]]:=hb2 _ _ hq1
   refine Ac<|oe 0 z<|A3 ty33 g2 hC6.keep z z fun v7 h5=>Ac<|be hr1 fun x4 hr4 hr1=>oe 6 z<|A7 B6 z z (c_M_privateOrder ax1 v7 (h5.now hC6.keep) ax2 v3 (h3.now hC6.keep) v4 (h4.now hC6.keep) x3 v6 ((hC6.ro 0 z).now (Aq _ _)) x4 hr4)<|?_
   rintro _ w6 ⟨hB5,v8,v9,F2,F3,rfl,hv2,hv3,hn3,hb3⟩
   obtain ⟨rfl,rfl⟩:=val_bool hv3
   have hC7:=hC6.pushL hB5 (Bs:=[Ab v8 x4.1]) (Fs:=[F2]) ⟨F2,_,z,hv2,z⟩ (by simpa using hn3) (fun b h=>hb3 b (by simpa using h))
   refine Ac<|tm 7 z z z<|tk 8 z z (Bq z z)<|AF z z z<|Ac<|tk 9 z z (Bq z z)<|AF z z z<|Ac<|ta 10 z z z<|ta 11 z z z<|dn<|?_
   obtain rfl:=Aa hr1
   have hC8:=hC7.h0
   exact Ak (l':=[(7,(.bool x4.2))]) ⟨z,Ai⟩<|⟨x4.2,z,z,hC8⟩
  refine be hr1 fun x2 hr2 hr1=>A7 BW z z (c_Slices_Clone_Lint_int ax3 v1 (h1.now hC3.keep) x2 hr2)<|?_
  rintro v2 w4 ⟨hB4,F1,hv1,hn1,hb1⟩
  have hC4:=hC3.push hB4 (A:=Ab v2 x2) hv1 hn1 hb1
  refine Ac<|WA_all3 (i:=0) (j:=1) (m:=5) (by kernel_rfl) z z z ?_ ?_ ?_
  ·refine A3 ty33 g2 hC4.keep z z fun v3 h2=>Ac<|BM (i:=1) (j:=5) (by kernel_rfl) z z ?_ ?_
   ·refine A3 ty37 g3 hC4.keep z z (fun v4 h3=>?_)
    obtain ⟨v5,v6,rfl,h4,h5⟩:=Cp h3
    refine Ac<|be hr1 fun x3 hr3 hr1=>oe 5 z<|?_
    obtain ⟨Fs1,hH1,hn2,hF1,hO1,hX1,hb2⟩:=BF (As:=[Af b1 [u1]]) [Ab v2 (x2:(List Int))] hC4
    refine A7 B7 z z (c_Slices_DeleteFunc_Lint_int_M_LeastDisclosure_c2_c1 x2 v2 b1 a1 (roat_box (hX1 0 _ _ z) (repd_slice (Bf g1 hC4.keep hF1))) pb3 ax3 (ROAt.lent g4 hC4.keep hF1) hH1 hn2 x3 hr3) ?_
    rintro v7 w5 ⟨_,rfl,hq1⟩
    have hC6:Ctx [] w0 w5 [Ab v7 (x3:(List Int)),Af b1 [u1]]:=hb2 _ _ hq1
    refine Ac<|be hr1 fun x4 hr4 hr1=>oe 6 z<|A7 B6 z z (c_M_privateOrder ax1 v3 (h2.now hC6.keep) ax2 v5 (h4.now hC6.keep) v6 (h5.now hC6.keep) x3 v7 ((hC6.ro 0 z).now (Aq _ _)) x4 hr4)<|?_
    rintro _ w6 ⟨hB5,v8,v9,F2,F3,rfl,hv2,hv3,hn3,hb3⟩
    obtain ⟨rfl,rfl⟩:=val_bool hv3
    have hC7:=hC6.pushL hB5 (Bs:=[Ab v8 x4.1]) (Fs:=[F2]) ⟨F2,_,z,hv2,z⟩ (by simpa using hn3) (fun b h=>hb3 b (by simpa using h))
    refine Ac<|tm 7 z z z<|tk 8 z z (Bq z z)<|AF z z z<|Ac<|tk 9 z z (Bq z z)<|AF z z z<|Ac<|ta 10 z z z<|ta 11 z z z<|dn<|?_
    obtain rfl:=Aa hr1
    have hC8:=hC7.h0
    exact Ak (l':=[(7,(.bool x4.2))]) ⟨z,Ai⟩<|⟨x4.2,z,z,hC8⟩
   obtain ⟨x3,hr3,hr1⟩:=BX hr1
   obtain ⟨Fs1,hH1,hn2,hF1,hO1,hX1,hb2⟩:=BF (As:=[Af b1 [u1]]) [Ab v2 (x2:(List Int))] hC4
   refine A7 B7 z z (c_Slices_DeleteFunc_Lint_int_M_LeastDisclosure_c2_c1 x2 v2 b1 a1 (roat_box (hX1 0 _ _ z) (repd_slice (Bf g1 hC4.keep hF1))) pb3 ax3 (ROAt.lent g4 hC4.keep hF1) hH1 hn2 x3 hr3) ?_
   rintro v4 w5 ⟨_,rfl,hq1⟩
   have hC6:Ctx [] w0 w5 [Ab v4 (x3:(List Int)),Af b1 [u1]]:=hb2 _ _ hq1
   refine Ac<|oe 1 z<|A3 ty37 g3 hC6.keep z z fun v5 h3=>?_
   obtain ⟨v6,v7,rfl,h4,h5⟩:=Cp h3
   refine Ac<|be hr1 fun x4 hr4 hr1=>oe 6 z<|A7 B6 z z (c_M_privateOrder ax1 v3 (h2.now hC6.keep) ax2 v6 (h4.now hC6.keep) v7 (h5.now hC6.keep) x3 v4 ((hC6.ro 0 z).now (Aq _ _)) x4 hr4)<|?_
   rintro _ w6 ⟨hB5,v8,v9,F2,F3,rfl,hv2,hv3,hn3,hb3⟩
   obtain ⟨rfl,rfl⟩:=val_bool hv3
   have hC7:=hC6.pushL hB5 (Bs:=[Ab v8 x4.1]) (Fs:=[F2]) ⟨F2,_,z,hv2,z⟩ (by simpa using hn3) (fun b h=>hb3 b (by simpa using h))
   refine Ac<|tm 7 z z z<|tk 8 z z (Bq z z)<|AF z z z<|Ac<|tk 9 z z (Bq z z)<|AF z z z<|Ac<|ta 10 z z z<|ta 11 z z z<|dn<|?_
   obtain rfl:=Aa hr1
   have hC8:=hC7.h0
   exact Ak (l':=[(7,(.bool x4.2))]) ⟨z,Ai⟩<|⟨x4.2,z,z,hC8⟩
  ·refine A3 ty37 g3 hC4.keep z z (fun v3 h2=>?_)
   obtain ⟨v4,v5,rfl,h3,h4⟩:=Cp h2
   refine Ac<|BM (i:=0) (j:=5) (by kernel_rfl) z z ?_ ?_
   ·refine A3 ty33 g2 hC4.keep z z fun v6 h5=>Ac<|be hr1 fun x3 hr3 hr1=>oe 5 z<|?_
    obtain ⟨Fs1,hH1,hn2,hF1,hO1,hX1,hb2⟩:=BF (As:=[Af b1 [u1]]) [Ab v2 (x2:(List Int))] hC4
    refine A7 B7 z z (c_Slices_DeleteFunc_Lint_int_M_LeastDisclosure_c2_c1 x2 v2 b1 a1 (roat_box (hX1 0 _ _ z) (repd_slice (Bf g1 hC4.keep hF1))) pb3 ax3 (ROAt.lent g4 hC4.keep hF1) hH1 hn2 x3 hr3) ?_
    rintro v7 w5 ⟨_,rfl,hq1⟩
    have hC6:Ctx [] w0 w5 [Ab v7 (x3:(List Int)),Af b1 [u1]]:=hb2 _ _ hq1
    refine Ac<|be hr1 fun x4 hr4 hr1=>oe 6 z<|A7 B6 z z (c_M_privateOrder ax1 v6 (h5.now hC6.keep) ax2 v4 (h3.now hC6.keep) v5 (h4.now hC6.keep) x3 v7 ((hC6.ro 0 z).now (Aq _ _)) x4 hr4)<|?_
    rintro _ w6 ⟨hB5,v8,v9,F2,F3,rfl,hv2,hv3,hn3,hb3⟩
    obtain ⟨rfl,rfl⟩:=val_bool hv3
    have hC7:=hC6.pushL hB5 (Bs:=[Ab v8 x4.1]) (Fs:=[F2]) ⟨F2,_,z,hv2,z⟩ (by simpa using hn3) (fun b h=>hb3 b (by simpa using h))
    refine Ac<|tm 7 z z z<|tk 8 z z (Bq z z)<|AF z z z<|Ac<|tk 9 z z (Bq z z)<|AF z z z<|Ac<|ta 10 z z z<|ta 11 z z z<|dn<|?_
    obtain rfl:=Aa hr1
    have hC8:=hC7.h0
    exact Ak (l':=[(7,(.bool x4.2))]) ⟨z,Ai⟩<|⟨x4.2,z,z,hC8⟩
   obtain ⟨x3,hr3,hr1⟩:=BX hr1
   obtain ⟨Fs1,hH1,hn2,hF1,hO1,hX1,hb2⟩:=BF (As:=[Af b1 [u1]]) [Ab v2 (x2:(List Int))] hC4
   refine A7 B7 z z (c_Slices_DeleteFunc_Lint_int_M_LeastDisclosure_c2_c1 x2 v2 b1 a1 (roat_box (hX1 0 _ _ z) (repd_slice (Bf g1 hC4.keep hF1))) pb3 ax3 (ROAt.lent g4 hC4.keep hF1) hH1 hn2 x3 hr3) ?_
   rintro v6 w5 ⟨_,rfl,hq1⟩
   have hC6:Ctx [] w0 w5 [Ab v6 (x3:(List Int)),Af b1 [u1]]:=hb2 _ _ hq1
   refine Ac<|oe 0 z<|A3 ty33 g2 hC6.keep z z fun v7 h5=>Ac<|be hr1 fun x4 hr4 hr1=>oe 6 z<|A7 B6 z z (c_M_privateOrder ax1 v7 (h5.now hC6.keep) ax2 v4 (h3.now hC6.keep) v5 (h4.now hC6.keep) x3 v6 ((hC6.ro 0 z).now (Aq _ _)) x4 hr4)<|?_
   rintro _ w6 ⟨hB5,v8,v9,F2,F3,rfl,hv2,hv3,hn3,hb3⟩
   obtain ⟨rfl,rfl⟩:=val_bool hv3
   have hC7:=hC6.pushL hB5 (Bs:=[Ab v8 x4.1]) (Fs:=[F2]) ⟨F2,_,z,hv2,z⟩ (by simpa using hn3) (fun b h=>hb3 b (by simpa using h))
   refine Ac<|tm 7 z z z<|tk 8 z z (Bq z z)<|AF z z z<|Ac<|tk 9 z z (Bq z z)<|AF z z z<|Ac<|ta 10 z z z<|ta 11 z z z<|dn<|?_
   obtain rfl:=Aa hr1
   have hC8:=hC7.h0
   exact Ak (l':=[(7,(.bool x4.2))]) ⟨z,Ai⟩<|⟨x4.2,z,z,hC8⟩
  obtain ⟨x3,hr3,hr1⟩:=BX hr1
  obtain ⟨Fs1,hH1,hn2,hF1,hO1,hX1,hb2⟩:=BF (As:=[Af b1 [u1]]) [Ab v2 (x2:(List Int))] hC4
  refine A7 B7 z z (c_Slices_DeleteFunc_Lint_int_M_LeastDisclosure_c2_c1 x2 v2 b1 a1 (roat_box (hX1 0 _ _ z) (repd_slice (Bf g1 hC4.keep hF1))) pb3 ax3 (ROAt.lent g4 hC4.keep hF1) hH1 hn2 x3 hr3) ?_
  rintro v3 w5 ⟨_,rfl,hq1⟩
  have hC6:Ctx [] w0 w5 [Ab v3 (x3:(List Int)),Af b1 [u1]]:=hb2 _ _ hq1
  refine Ac<|wAS (l':=[(0,u1),(1,(ptr pb1 0)),(2,(ptr pb2 0)),(3,(ptr pb3 0)),(4,(ptr b1 0)),(5,(.bool false)),(11,v1),(12,v2),(13,(.func (.func 70) #[] #[(ptr b1 0),(ptr pb3 0)])),(14,v3)]) ⟨z,z,z,z,z,z,z,z,z,z,Ai⟩<|Bw [⟨0,[],fun vs=>Ct [] w0 ax1,[]⟩,⟨1,[],fun vs=>Ct [] w0 ax2,[]⟩] [[],[]] 6 z (by kernel_rfl) (by kernel_rfl) z ?_ ?_
  ·refine An z ?_ ?_
   ·intro w6 hB5
    refine Ar<|⟨_,z,?_⟩
    exact A3 ty33 g2 (hC6.keep.then hB5) z z fun v4 h2=>Ac<|Ay (Al _ _) z z ⟨z,h2⟩
   refine An z ?_ ?_
   ·intro w6 hB5
    refine Ar<|⟨_,z,?_⟩
    exact A3 ty37 g3 (hC6.keep.then hB5) z z fun v8 h6=>Ac<|Ay (Al _ _) z z ⟨z,h6⟩
   exact Bp
  intro w7 hB6
  refine At z z z ?_
  rintro v4 _ ⟨rfl,h2⟩
  refine At z z z ?_
  rintro v8 _ ⟨rfl,h6⟩
  obtain ⟨v6,v7,rfl,h4,h5⟩:=Cp h6
  refine B0 fun hn3 hb3=>have hC7:=hC6.grow hB6;be hr1 fun x4 hr4 hr1=>oe 6 z<|A7 B6 z z (c_M_privateOrder ax1 v4 (h2.now hC7.keep) ax2 v6 (h4.now hC7.keep) v7 (h5.now hC7.keep) x3 v3 ((hC7.ro 0 z).now (Aq _ _)) x4 hr4)<|?_
  rintro _ w9 ⟨hB7,v9,v10,F2,F3,rfl,hv2,hv3,hn4,hb4⟩
  obtain ⟨rfl,rfl⟩:=val_bool hv3
  have hC8:=hC7.pushL hB7 (Bs:=[Ab v9 x4.1]) (Fs:=[F2]) ⟨F2,_,z,hv2,z⟩ (by simpa using hn4) (fun b h=>hb4 b (by simpa using h))
  refine Ac<|tm 7 z z z<|tk 8 z z (Bq z z)<|AF z z z<|Ac<|tk 9 z z (Bq z z)<|AF z z z<|Ac<|ta 10 z z z<|ta 11 z z z<|dn<|?_
  obtain rfl:=Aa hr1
  have hC9:=hC8.h0
  exact Ak (l':=[(7,(.bool x4.2))]) ⟨z,Ai⟩<|⟨x4.2,z,z,hC9⟩
 rintro _ w2 ⟨x1,rfl,rfl,hC2⟩
 try dsimp only at hF
 refine Ad<|Ag z z<|Ae z z<|Ac<|AP<|?_
 obtain rfl:=Aa hF
 exact A8 z z<|⟨_,z,AR hC2 _⟩
theorem c_Slices_IndexFunc_Lint_int_M_LeastDisclosure_c1 {w0:World} (a1:(List Int)) (u1:Value) (g1:RO [] w0 u1 a1) (pb1:Nat) (ax1:(List Int)) (g2:ROAt [] w0 pb1 0 ax1) (rr:Int) (hF:Slices.IndexFunc_Lint_int_M_LeastDisclosure_c1 a1 ax1=some rr) :
 Calls Tryz.prog 99 [u1,(.func (.func 65) #[] #[(ptr pb1 0)])].toArray w0 fun e w'=>∃v,e=.returned v∧Res w0 rr v w':=by
 refine Au Ce z z ?_
 have hC0:=AA w0
 unfold Slices.IndexFunc_Lint_int_M_LeastDisclosure_c1 at hF
 refine Ad<|Ae z z<|Ac<|A6<|Ad<|Ag z z<|AZ Ah g1 z z<|Ag z z<|Ac<|be hF fun r1 hr1 hF=>Bd (fun l w=>.inl ()=r1∧l=[]∧Below w0.heap.size w0 w∧Ctx [] w0 w []) ?_ ?_
 ·refine AH<|wS (l':=[(0,u1),(1,(.func (.func 65) #[] #[(ptr pb1 0)])),(7,(I (List.length a1:Int))),(8,(I 0))]) ⟨z,z,z,z,Ai⟩<|Bu (fun k l w=>∃x1:Int,l=[(0,u1),(1,(.func (.func 65) #[] #[(ptr pb1 0)])),(7,(I (List.length a1:Int))),(8,(I x1))]∧Below w0.heap.size w0 w∧Ctx [] w0 w []∧Slices.IndexFunc_Lint_int_M_LeastDisclosure_c1_l1 a1 ax1 k x1=some r1) FUEL ⟨0,z,(Al _ _),hC0,hr1⟩<|?_
  clear hr1
  rintro k1 _ w1 ⟨x1,rfl,hB1,hC1,hL1⟩
  cases k1 with
  | zero=>rw [Slices.IndexFunc_Lint_int_M_LeastDisclosure_c1_l1] at hL1; cases hL1
  | succ k1 =>
   rw [Slices.IndexFunc_Lint_int_M_LeastDisclosure_c1_l1] at hL1
   refine Ad<|Bo z z z<|Ac<|A6<|AI z (fun hc1=>?_) (fun hc1=>?_)
   ·replace hL1:=AC hL1 hc1
    refine AJ<|Am<|A6<|AH<|Ad<|Ag z z<|Ae z z<|Ac<|Ad<|Ag z z<|Ag z z<|Ag z z<|be hL1 fun x2 hx1 hL1=>AG Ah ty3 g1 hx1 z z z fun b1 o1 h1=>A3 ty3 h1 hC1.keep z z fun v1 h2=>?_
    obtain rfl:=Bn h2
    refine be hL1 fun x3 hr2 hL1=>BH (cap:=[(ptr pb1 0)]) Tryz.call65 z z z (c_M_LeastDisclosure_c1 x2 pb1 ax1 (g2.now hC1.keep) x3 hr2) fun _ w2 hv1=>?_
    obtain ⟨rfl,hB2⟩:=BJ hv1
    have hC2:=hC1.grow hB2
    refine Ac<|AI z (fun hc2=>?_) (fun hc2=>?_)
    ·replace hL1:=AC hL1 hc2
     refine Ad<|Ag z z<|Ae z z<|Ac<|AP<|Bk<|Az<|Az<|Bk<|Az<|Az<|?_
     obtain rfl:=Aa hL1
     dsimp only at hF
     obtain rfl:=Aa hF
     exact A8 z z<|⟨_,z,B5 hC2 _⟩
    replace hL1:=AD hL1 hc2
    exact AJ<|AM<|Am<|Bb<|Bj z z z<|Ag z z<|Ac<|Ak (l':=[(0,u1),(1,(.func (.func 65) #[] #[(ptr pb1 0)])),(7,(I (List.length a1:Int))),(8,(I (w64 (x1+1))))]) ⟨z,z,z,z,Ai⟩<|⟨k1,Av _,w64 (x1+1),z,((Ap hB1).then hB2).below,hC2,hL1⟩
   replace hL1:=AD hL1 hc1
   refine Bt (A1 (A1 (Be ?_)))
   obtain rfl:=Aa hL1
   exact Ak (l':=[]) Ai<|⟨z,z,(Ap hB1).below,hC1⟩
 rintro l2 _ w3 hs2 ⟨rfl,rfl,hB3,hC3⟩
 try dsimp only at hF
 refine AL hs2 ?_
 clear hs2
 refine Ad<|Ae z z<|Ac<|AP<|?_
 obtain rfl:=Aa hF
 exact A8 z z<|⟨_,z,B5 hC3 _⟩
theorem c_Slices_DeleteFunc_Lint_int_M_LeastDisclosure_c1 {Fs:List (List Nat)} {w0:World} (a1:(List Int)) (u1:Value) (pb1:Nat) (ax1:(List Int)) (g1:ROAt Fs.flatten w0 pb1 0 ax1) (hH:Hold [Ab u1 (a1:(List Int))] w0 Fs) (hn:Fs.flatten.Nodup) (rr:(List Int)) (hF:Slices.DeleteFunc_Lint_int_M_LeastDisclosure_c1 a1 ax1=some rr) :
 Calls Tryz.prog 64 [u1,(.func (.func 65) #[] #[(ptr pb1 0)])].toArray w0 fun e w'=>∃v,e=.returned v∧∃q0:Value,v=q0∧Ctx Fs.flatten w0 w' [Ab q0 (rr:(List Int))]:=by
 refine Au Tryz.func64 z z ?_
 have hC0:=BD hH hn
 unfold Slices.DeleteFunc_Lint_int_M_LeastDisclosure_c1 at hF
 refine be hF fun x hx hF=>Ad<|Ae z z<|Ac<|Ad<|Ag z z<|Ag z z<|ci Cf z z (c_Slices_IndexFunc_Lint_int_M_LeastDisclosure_c1 a1 u1 (hC0.ro 0 z) pb1 ax1 (g1.now (Aq _ _)) x hx) fun w1 hB1=>have hC1:=hC0.grow hB1;Ae z z<|Ac<|A6<|Ad<|Ag z z<|BT z z z<|?_
 by_cases hx1:x=-1
 ·rw [if_pos hx1] at hF
  obtain rfl:=Aa hF
  rw [decide_eq_true hx1]
  exact Ac<|CH z<|Ad<|Ag z z<|Ae z z<|Ac<|AP<|Az<|A8 z z<|⟨_,z,_,z,hC1⟩
 rw [if_neg hx1] at hF
 have hr:0 ≤ x∧x < (a1.length:Int):=Classical.byContradiction fun h=>by rw [if_neg h] at hF; cases hF
 rw [if_pos hr] at hF
 obtain ⟨m,rfl⟩:∃m:Nat,x=m:=⟨x.toNat,by omega⟩
 have hm:m < a1.length:=by omega
 have hlim:=(hC0.ro 0 z).lt
 simp only [maxLen] at hlim
 rw [Int.toNat_natCast] at hF
 rw [decide_eq_false hx1]
 refine Ac<|CI z<|AJ<|Am<|A6<|Ad<|Ag z z<|Bj z z z<|?_
 rw [show w64 ((m:Int)+1)=((m+1:Nat):Int) by rw [w64_id (by omega) (by omega)]; omega]
 refine Ae z z<|Ac<|?_
 obtain ⟨b,c,rfl,hc1,hc2,hD0⟩:=hC1.del_open hm
 have hml:(a1.take m).length=m:=by rw [List.length_take]; omega
 refine Bd (fun l w=>∃kept:List Int,∃g:Nat,l=[(0,.slice (some ⟨b,0,none⟩) a1.length c),(5,.int .i64 (kept.length:Int))]∧0 < g∧kept.length+g=a1.length∧kept=rr∧Ctx Fs.flatten w0 w [Item.del b c kept g ([]:List Int)]) ?_ ?_
 ·refine AH<|wS (l':=[(0,.slice (some ⟨b,0,none⟩) a1.length c),(1,(.func (.func 65) #[] #[(ptr pb1 0)])),(5,.int .i64 (m:Int)),(6,.int .i64 ((m+1:Nat):Int))]) ⟨z,z,z,z,Ai⟩<|Bu (fun k l w=>∃kept:List Int,∃g:Nat,∃rest:List Int,l=[(0,.slice (some ⟨b,0,none⟩) a1.length c),(1,(.func (.func 65) #[] #[(ptr pb1 0)])),(5,.int .i64 (kept.length:Int)),(6,.int .i64 ((kept.length+g:Nat):Int))]∧0 < g∧kept.length+g+rest.length=a1.length∧dfl (fun e=>M.LeastDisclosure_c1 e ax1) kept rest=some rr∧k=rest.length∧Ctx Fs.flatten w0 w [Item.del b c kept g rest]) (a1.drop (m+1)).length ⟨a1.take m,1,a1.drop (m+1),by rw [hml],by omega,by rw [hml,List.length_drop]; omega,hF,z,hD0⟩<|?_
  clear hF hD0
  rintro k1 _ w2 ⟨kept,g,rest,rfl,hg,hlen,hL,hk,hD⟩
  refine A6<|Ad<|Ag z z<|Ag z z<|WL_len_raw Ah z z<|Bo z z z<|?_
  cases rest with
  | nil =>
   have hq:=Aa hL
   simp only [List.length_nil,Nat.add_zero] at hlen
   rw [decide_eq_false (show ¬ ((kept.length+g:Nat):Int) < (a1.length:Int) by omega)]
   exact Ac<|CI z<|Bt<|A1<|A1<|Be<|Ak (l':=[(0,.slice (some ⟨b,0,none⟩) a1.length c),(5,.int .i64 (kept.length:Int))]) ⟨z,z,Ai⟩<|⟨kept,g,z,hg,hlen,hq,hD⟩
  | cons x rest =>
   simp only [List.length_cons] at hlen hk
   rw [decide_eq_true (show ((kept.length+g:Nat):Int) < (a1.length:Int) by omega)]
   refine Ac<|CH z<|AJ<|Am<|A6<|AH<|Ad<|Ag z z<|Ag z z<|CB Ah ty3 (show kept.length+g < a1.length by omega) z z z<|?_
   obtain ⟨cs,hcs,hD1⟩:=hD.del_head
   obtain ⟨hro,row,T,hh,hrow⟩:=hD1.delh_row
   refine WL_load_raw ty3 hh (by rw [Nat.zero_add]; exact hrow) hcs z z ?_
   obtain rfl:=cells_of_int hcs (Bn hro)
   rw [show mkv (Rep.agg Int) [(I x)]=(I x) from z]
   refine Ae z z<|Ac<|Ad<|Ag z z<|Ag z z<|?_
   obtain ⟨q,hq,hL⟩:=BX (show (M.LeastDisclosure_c1 x ax1).bind (fun b=>dfl (fun e=>M.LeastDisclosure_c1 e ax1) (if b then kept else kept ++ [x]) rest)=some rr from hL)
   refine BH (cap:=[(ptr pb1 0)]) Tryz.call65 z z z (c_M_LeastDisclosure_c1 x pb1 ax1 (g1.now hD1.keep) q hq) ?_
   intro _ w5 hv2
   obtain ⟨rfl,hB5⟩:=BJ hv2
   have hD4:=hD1.grow hB5
   refine Bx z z<|Ac<|AI z (fun hq1=>?_) (fun hq1=>?_)
   ·have hqf:q=false:=by simpa using hq1
    rw [hqf] at hL
    rw [if_neg (by simp)] at hL
    refine Ad<|Ag z z<|Ag z z<|Ag z z<|CB Ah ty3 (show kept.length < a1.length by omega) z z z<|WL_store_del hD4 hg ty3 z z z fun w6 hD5=>Ac<|Bb<|Ag z z<|Bj z z z<|?_
    rw [show w64 ((kept.length:Int)+1)=((kept ++ [x]).length:Int) by rw [w64_id (by omega) (by omega),List.length_append]; rfl]
    refine Ae z z<|Ac<|AM<|Am<|Bb<|Ag z z<|Bj z z z<|?_
    rw [show w64 (((kept.length+g:Nat):Int)+1)=(((kept ++ [x]).length+g:Nat):Int) by rw [w64_id (by omega) (by omega),List.length_append]; simp only [List.length_cons,List.length_nil]; omega]
    exact Ae z z<|Ac<|Ak (l':=[(0,.slice (some ⟨b,0,none⟩) a1.length c),(1,(.func (.func 65) #[] #[(ptr pb1 0)])),(5,.int .i64 ((kept ++ [x]).length:Int)),(6,.int .i64 (((kept ++ [x]).length+g:Nat):Int))]) ⟨z,z,z,z,Ai⟩<|⟨rest.length,by omega,kept ++ [x],g,rest,z,hg,by rw [List.length_append]; simp only [List.length_cons,List.length_nil]; omega,hL,z,hD5⟩
   have hqt:q=true:=by simpa using hq1
   rw [hqt] at hL
   rw [if_pos z] at hL
   refine AJ<|AM<|Am<|Bb<|Ag z z<|Bj z z z<|?_
   rw [show w64 (((kept.length+g:Nat):Int)+1)=((kept.length+(g+1):Nat):Int) by rw [w64_id (by omega) (by omega)]; omega]
   exact Ae z z<|Ac<|Ak (l':=[(0,.slice (some ⟨b,0,none⟩) a1.length c),(1,(.func (.func 65) #[] #[(ptr pb1 0)])),(5,.int .i64 (kept.length:Int)),(6,.int .i64 ((kept.length+(g+1):Nat):Int))]) ⟨z,z,z,z,Ai⟩<|have hD5:=hD4.del_skip;⟨rest.length,by omega,kept,g+1,rest,z,by omega,by omega,hL,z,hD5⟩
 rintro l2 _ w8 hs2 ⟨kept,g,rfl,hg,hlen,rfl,hD⟩
 refine AL hs2 ?_
 clear hs2
 exact Ad<|Ag z z<|Ag z z<|WL_sl_l Ah ty3 (show kept.length < c by omega) (show kept.length ≤ a1.length by omega) hc1 z z z<|WL_clear_del hD Ah ty3 zc3 (fac z<|fa0) hlen.symm z hg fun w9 hD9=>Ac<|Ad<|Ag z z<|Ag z z<|WL_sl_h Ah ty3 (hi:=kept.length) (by omega) (by omega) z z z<|Ae z z<|Ac<|AP<|A8 z z<|⟨_,z,_,z,hD9⟩
theorem c_M_smallest_M_LeastDisclosure_c2 {w0:World} (a1:Int) (pb1:Nat) (ax1:(List (Int × (List Int) × Int × Int × Int))) (g1:ROAt [] w0 pb1 0 ax1) (pb2:Nat) (ax2:((List Int) × (List (Int × (List Int))))) (g2:ROAt [] w0 pb2 0 ax2) (pb3:Nat) (ax3:(List Int)) (g3:ROAt [] w0 pb3 0 ax3) (rr:((List Int) × Bool)) (hF:M.smallest_M_LeastDisclosure_c2 a1 ax1 ax2 ax3=some rr) :
 Calls Tryz.prog 67 [(I a1),(.func (.func 68) #[] #[(ptr pb1 0),(ptr pb2 0),(ptr pb3 0)])].toArray w0 fun e w'=>∃v,e=.returned v∧Res2 w0 rr.1 rr.2 v w':=by
 refine Au Tryz.func67 z z ?_
 have hC0:=AA w0
 unfold M.smallest_M_LeastDisclosure_c2 at hF
 refine Ad<|Ae z z<|Ae z z<|Ac<|Ad<|Ae z z<|Ac<|A6<|Ad<|Ag z z<|be hF fun _ hx1 hF=>WL_shl (nn_some hx1) z z z<|Ag z z<|Ac<|be hF fun r1 hr1 hF=>Bd (fun l w=>∃v2:Value,∃x4:(List Int),∃x5:Bool,(x4,x5)=r1∧l=[(6,v2)]∧Ctx [] w0 w [Ab v2 (x4:(List Int))]∧NilB v2 x5) ?_ ?_
 ·refine AH ?_
  have hC28:=hC0.triv (nil_val (α:=Int))
  refine wS (l':=[(0,(I a1)),(1,(.func (.func 68) #[] #[(ptr pb1 0),(ptr pb2 0),(ptr pb3 0)])),(6,(.slice none 0 0)),(11,(I (shl 1 a1))),(12,(I 0))]) ⟨z,z,z,z,z,Ai⟩<|Bu (fun k l w=>∃v1:Value,∃x1:(List Int),∃x2:Bool,∃x3:Int,l=[(0,(I a1)),(1,(.func (.func 68) #[] #[(ptr pb1 0),(ptr pb2 0),(ptr pb3 0)])),(6,v1),(11,(I (shl 1 a1))),(12,(I x3))]∧Ctx [] w0 w [Ab v1 (x1:(List Int))]∧NilB v1 x2∧M.smallest_M_LeastDisclosure_c2_l1 a1 ax1 ax2 ax3 k x1 x2 x3=some r1) FUEL ⟨(.slice none 0 0),[],true,0,z,hC28,nilB_nil,hr1⟩<|?_
  clear hr1
  rintro k1 _ w1 ⟨v1,x1,x2,x3,rfl,hC1,hnb1,hL1⟩
  cases k1 with
  | zero=>rw [M.smallest_M_LeastDisclosure_c2_l1] at hL1; cases hL1
  | succ k1 =>
   rw [M.smallest_M_LeastDisclosure_c2_l1] at hL1
   refine Ad<|Bo z z z<|Ac<|A6<|AI z (fun hc1=>?_) (fun hc1=>?_)
   ·replace hL1:=AC hL1 hc1
    refine AJ<|Am<|A6<|AH<|Ad<|Ag z z<|Ae z z<|Ac<|Ad<|A2 (vs:=[]) hC1 Ah ty3 z z z z (by simp) z z fun b1 w2 hC2 hB2=>?_
    have hC3:=hC2.row0 (α:=Int)
    have hC4:=hC3.front 1 z
    dsimp only [List.eraseIdx,List.cons_append,List.nil_append,List.append_nil] at hC4
    have hC5:Ctx [] w0 w2 (Ab (.slice (some ⟨b1,0,none⟩) 0 0) (([]:List Int):List Int)::[Ab v1 (x1:(List Int))]):=hC4.rowOwn (by simp [maxLen])
    refine Ae z z<|Ac<|A6<|Ad<|Ag z z<|Ag z z<|Ac<|be hL1 fun r2 hr2 hL1=>Bd (fun l w=>∃v4:Value,∃x9:(List Int),∃x10:Bool,(x9,x10)=r2∧l=[(0,(I a1)),(1,(.func (.func 68) #[] #[(ptr pb1 0),(ptr pb2 0),(ptr pb3 0)])),(6,v1),(8,v4),(11,(I (shl 1 a1))),(12,(I x3))]∧Ctx [] w0 w [Ab v4 (x9:(List Int)),Ab v1 (x1:(List Int))]∧NilB v4 x10) ?_ ?_
    ·refine AH<|wS (l':=[(0,(I a1)),(1,(.func (.func 68) #[] #[(ptr pb1 0),(ptr pb2 0),(ptr pb3 0)])),(6,v1),(7,(I x3)),(8,(.slice (some ⟨b1,0,none⟩) 0 0)),(11,(I (shl 1 a1))),(12,(I x3)),(16,(I a1)),(17,(I 0))]) ⟨z,z,z,z,z,z,z,z,z,Ai⟩<|Bu (fun k l w=>∃v3:Value,∃x6:(List Int),∃x7:Bool,∃x8:Int,l=[(0,(I a1)),(1,(.func (.func 68) #[] #[(ptr pb1 0),(ptr pb2 0),(ptr pb3 0)])),(6,v1),(7,(I x3)),(8,v3),(11,(I (shl 1 a1))),(12,(I x3)),(16,(I a1)),(17,(I x8))]∧Ctx [] w0 w [Ab v3 (x6:(List Int)),Ab v1 (x1:(List Int))]∧NilB v3 x7∧M.smallest_M_LeastDisclosure_c2_l2 a1 x3 k x6 x7 x8=some r2) FUEL ⟨(.slice (some ⟨b1,0,none⟩) 0 0),([]:List Int),false,0,z,hC5,nilB_some,hr2⟩<|?_
     clear hr2
     rintro k2 _ w3 ⟨v3,x6,x7,x8,rfl,hC6,hnb3,hL2⟩
     cases k2 with
     | zero=>rw [M.smallest_M_LeastDisclosure_c2_l2] at hL2; cases hL2
     | succ k2 =>
      rw [M.smallest_M_LeastDisclosure_c2_l2] at hL2
      refine Ad<|Bo z z z<|Ac<|A6<|AI z (fun hc2=>?_) (fun hc2=>?_)
      ·replace hL2:=AC hL2 hc2
       refine AJ<|Am<|A6<|AH<|Ad<|Ag z z<|Ae z z<|Ac<|Ad<|Ag z z<|Ag z z<|be hL2 fun _ hx2 hL2=>WL_shr (nn_some hx2) z z z<|WL_band z z z<|BT z z z<|Ac<|be hL2 fun r3 hr3 hL2=>Bd (fun l w=>∃v5:Value,∃x11:(List Int),∃x12:Bool,(x11,x12)=r3∧l=[(0,(I a1)),(1,(.func (.func 68) #[] #[(ptr pb1 0),(ptr pb2 0),(ptr pb3 0)])),(6,v1),(7,(I x3)),(8,v5),(11,(I (shl 1 a1))),(12,(I x3)),(16,(I a1)),(17,(I x8))]∧Ctx [] w0 w [Ab v5 (x11:(List Int)),Ab v1 (x1:(List Int))]∧NilB v5 x12) ?_ ?_
       ·refine AI z (fun hc3=>?_) (fun hc3=>?_)
        ·replace hr3:=AC hr3 hc3
         refine Bb<|Ag z z<|Ag z z<|A2 (vs:=[(I x8)]) hC6 Ah ty3 z z z z (fac z<|fa0) z z fun b2 w5 hC8 hB5=>?_
         have hC9:=hC8.row0 (α:=Int)
         have hC10:=hC9.triv (Bm (x8))
         have hC11:=hC10.row1
         have hC12:=hC11.front 1 z
         dsimp only [List.eraseIdx,List.cons_append,List.nil_append,List.append_nil] at hC12
         have hC13:Ctx [] w0 w5 (Ab (.slice (some ⟨b2,0,none⟩) 1 1) ([x8]:List Int)::[Ab v3 (x6:(List Int)),Ab v1 (x1:(List Int))]):=hC12.rowOwn (by simp [maxLen])
         refine be hr3 fun x13 hx3 hr3=>Bi (α:=Int) hC13 1 z (hC13.ro 0 z) (Aq _ _) Ah ty3 z hx3 z z z fun v6 w6 hC14=>?_
         try dsimp only [List.set] at hC14
         refine Ae z z<|Ac<|?_
         obtain rfl:=Aa hr3
         have hC15:=hC14.f2
         have hC16:=hC15.f2
         have hC17:=hC16.h2
         exact Ak (l':=[(0,(I a1)),(1,(.func (.func 68) #[] #[(ptr pb1 0),(ptr pb2 0),(ptr pb3 0)])),(6,v1),(7,(I x3)),(8,v6),(11,(I (shl 1 a1))),(12,(I x3)),(16,(I a1)),(17,(I x8))]) ⟨z,z,z,z,z,z,z,z,z,Ai⟩<|⟨v6,x13,false,z,z,hC17,(nilB_own hC14 1 z (app_ne hx3))⟩
        replace hr3:=AD hr3 hc3
        refine AJ ?_
        obtain rfl:=Aa hr3
        exact Ak (l':=[(0,(I a1)),(1,(.func (.func 68) #[] #[(ptr pb1 0),(ptr pb2 0),(ptr pb3 0)])),(6,v1),(7,(I x3)),(8,v3),(11,(I (shl 1 a1))),(12,(I x3)),(16,(I a1)),(17,(I x8))]) ⟨z,z,z,z,z,z,z,z,z,Ai⟩<|⟨v3,x6,x7,z,z,hC6,hnb3⟩
       rintro l3 _ w4 hs3 ⟨v5,x11,x12,rfl,rfl,hC7,hnb5⟩
       try dsimp only at hL2
       refine AM<|AL hs3<|?_
       clear hs3
       exact Bb<|Bj z z z<|Ag z z<|Ac<|Ak (l':=[(0,(I a1)),(1,(.func (.func 68) #[] #[(ptr pb1 0),(ptr pb2 0),(ptr pb3 0)])),(6,v1),(7,(I x3)),(8,v5),(11,(I (shl 1 a1))),(12,(I x3)),(16,(I a1)),(17,(I (w64 (x8+1))))]) ⟨z,z,z,z,z,z,z,z,z,Ai⟩<|⟨k2,Av _,v5,x11,x12,w64 (x8+1),z,hC7,hnb5,hL2⟩
      replace hL2:=AD hL2 hc2
      refine Bt (A1 (A1 (Be ?_)))
      obtain rfl:=Aa hL2
      exact Ak (l':=[(0,(I a1)),(1,(.func (.func 68) #[] #[(ptr pb1 0),(ptr pb2 0),(ptr pb3 0)])),(6,v1),(8,v3),(11,(I (shl 1 a1))),(12,(I x3))]) ⟨z,z,z,z,z,z,Ai⟩<|⟨v3,x6,x7,z,z,hC6,hnb3⟩
    rintro l4 _ w7 hs4 ⟨v4,x9,x10,rfl,rfl,hC18,hnb4⟩
    try dsimp only at hL1
    refine AL hs4 ?_
    clear hs4
    refine be hL1 fun r4 hr4 hL1=>BA (fun l w=>∃x14:Bool,x14=r4∧l=[(0,(I a1)),(1,(.func (.func 68) #[] #[(ptr pb1 0),(ptr pb2 0),(ptr pb3 0)])),(6,v1),(8,v4),(11,(I (shl 1 a1))),(12,(I x3)),(56,(.bool x14))]∧Below w7.heap.size w7 w∧Ctx [] w0 w [Ab v4 (x9:(List Int)),Ab v1 (x1:(List Int))]) ?_ ?_
    ·refine Bb<|Ag z z<|WL_nil_eql Ah hnb1 z z<|Ag z z<|Br (fun hc4=>?_) (fun hc4=>?_)
     ·replace hr4:=AC hr4 hc4
      refine gs z z z z<|gs z z z z<|gs z z z z<|gs z z z z<|gs z z z z<|AV z z z<|Ag z z<|gs z z z z<|gs z z z z<|gs z z z z<|gs z z z z<|gs z z z z<|gs z z z z<|gs z z z z<|gs z z z z<|gs z z z z<|gs z z z z<|gs z z z z<|AV z z z<|Ag z z<|Aj z z<|Ag z z<|Aj z z<|Ag z z<|be hr4 fun x15 hr5 hr4=>Aj z z<|BH (cap:=[(ptr pb1 0),(ptr pb2 0),(ptr pb3 0)]) Tryz.call68 z z z (c_M_LeastDisclosure_c2 x9 v4 ((hC18.ro 0 z).now (Aq _ _)) pb1 ax1 (g1.now hC18.keep) pb2 ax2 (g2.now hC18.keep) pb3 ax3 (g3.now hC18.keep) x15 hr5) fun _ w10 hv1=>?_
      obtain ⟨rfl,hB8⟩:=BJ hv1
      have hC20:=hC18.grow hB8
      refine AV z z z<|Ac<|?_
      obtain rfl:=Aa hr4
      exact Ak (l':=[(0,(I a1)),(1,(.func (.func 68) #[] #[(ptr pb1 0),(ptr pb2 0),(ptr pb3 0)])),(6,v1),(8,v4),(11,(I (shl 1 a1))),(12,(I x3)),(56,(.bool x15))]) ⟨z,z,z,z,z,z,z,Ai⟩<|⟨x15,z,z,(Ap hB8).below,hC20⟩
     replace hr4:=AD hr4 hc4
     refine Aj z z<|Ag z z<|Aj z z<|AZ Ah (hC18.ro 0 z) z z<|Aj z z<|Ag z z<|Aj z z<|AZ Ah (hC18.ro 1 z) z z<|Aj z z<|Bo z z z<|AS z z z<|Ag z z<|Br (fun hc5=>?_) (fun hc5=>?_)
     ·replace hr4:=AC hr4 hc5
      refine gs z z z z<|gs z z z z<|gs z z z z<|gs z z z z<|gs z z z z<|gs z z z z<|gs z z z z<|gs z z z z<|gs z z z z<|gs z z z z<|gs z z z z<|AV z z z<|Ag z z<|Aj z z<|Ag z z<|Aj z z<|Ag z z<|be hr4 fun x16 hr6 hr4=>Aj z z<|BH (cap:=[(ptr pb1 0),(ptr pb2 0),(ptr pb3 0)]) Tryz.call68 z z z (c_M_LeastDisclosure_c2 x9 v4 ((hC18.ro 0 z).now (Aq _ _)) pb1 ax1 (g1.now hC18.keep) pb2 ax2 (g2.now hC18.keep) pb3 ax3 (g3.now hC18.keep) x16 hr6) fun _ w11 hv2=>?_
      obtain ⟨rfl,hB9⟩:=BJ hv2
      have hC21:=hC18.grow hB9
      refine AV z z z<|Ac<|?_
      obtain rfl:=Aa hr4
      exact Ak (l':=[(0,(I a1)),(1,(.func (.func 68) #[] #[(ptr pb1 0),(ptr pb2 0),(ptr pb3 0)])),(6,v1),(8,v4),(11,(I (shl 1 a1))),(12,(I x3)),(56,(.bool x16))]) ⟨z,z,z,z,z,z,z,Ai⟩<|⟨x16,z,z,(Ap hB9).below,hC21⟩
     replace hr4:=AD hr4 hc5
     refine Aj z z<|Ag z z<|Aj z z<|AZ Ah (hC18.ro 0 z) z z<|Aj z z<|Ag z z<|Aj z z<|AZ Ah (hC18.ro 1 z) z z<|Aj z z<|BT z z z<|Aj z z<|Ag z z<|Br (fun hc6=>?_) (fun hc6=>?_)
     ·replace hr4:=AC hr4 hc6
      refine Aj z z<|Ag z z<|Aj z z<|Ag z z<|be hr4 fun x17 hr7 hr4=>Aj z z<|ci Tryz.call101 z z (c_Slices_Compare_Lint_int x9 v4 ((hC18.ro 0 z).now (Aq _ _)) x1 v1 ((hC18.ro 1 z).now (Aq _ _)) x17 hr7) fun w12 hB10=>have hC22:=hC18.grow hB10;Aj z z<|Bo z z z<|Aj z z<|AV z z z<|AS z z z<|Ag z z<|Br (fun hc7=>?_) (fun hc7=>?_)
      ·replace hr4:=AC hr4 hc7
       refine Aj z z<|Ag z z<|Aj z z<|Ag z z<|be hr4 fun x18 hr8 hr4=>Aj z z<|BH (cap:=[(ptr pb1 0),(ptr pb2 0),(ptr pb3 0)]) Tryz.call68 z z z (c_M_LeastDisclosure_c2 x9 v4 ((hC22.ro 0 z).now (Aq _ _)) pb1 ax1 (g1.now hC22.keep) pb2 ax2 (g2.now hC22.keep) pb3 ax3 (g3.now hC22.keep) x18 hr8) fun _ w13 hv4=>?_
       obtain ⟨rfl,hB11⟩:=BJ hv4
       have hC23:=hC22.grow hB11
       refine AV z z z<|Ac<|?_
       obtain rfl:=Aa hr4
       exact Ak (l':=[(0,(I a1)),(1,(.func (.func 68) #[] #[(ptr pb1 0),(ptr pb2 0),(ptr pb3 0)])),(6,v1),(8,v4),(11,(I (shl 1 a1))),(12,(I x3)),(56,(.bool x18))]) ⟨z,z,z,z,z,z,z,Ai⟩<|⟨x18,z,z,((Ap hB10).then hB11).below,hC23⟩
      replace hr4:=AD hr4 hc7
      refine gs z z z z<|gs z z z z<|gs z z z z<|AS z z z<|Ac<|?_
      obtain rfl:=Aa hr4
      exact Ak (l':=[(0,(I a1)),(1,(.func (.func 68) #[] #[(ptr pb1 0),(ptr pb2 0),(ptr pb3 0)])),(6,v1),(8,v4),(11,(I (shl 1 a1))),(12,(I x3)),(56,(.bool false))]) ⟨z,z,z,z,z,z,z,Ai⟩<|⟨false,z,z,(Ap hB10).below,hC22⟩
     replace hr4:=AD hr4 hc6
     refine gs z z z z<|gs z z z z<|gs z z z z<|gs z z z z<|Aj z z<|AS z z z<|AS z z z<|Ag z z<|gs z z z z<|gs z z z z<|gs z z z z<|AS z z z<|Ac<|?_
     obtain rfl:=Aa hr4
     exact Ak (l':=[(0,(I a1)),(1,(.func (.func 68) #[] #[(ptr pb1 0),(ptr pb2 0),(ptr pb3 0)])),(6,v1),(8,v4),(11,(I (shl 1 a1))),(12,(I x3)),(56,(.bool false))]) ⟨z,z,z,z,z,z,z,Ai⟩<|⟨false,z,z,(Al _ _),hC18⟩
    rintro _ w9 ⟨x14,rfl,rfl,hB7,hC19⟩
    try dsimp only at hL1
    refine be hL1 fun r5 hr9 hL1=>Bd (fun l w=>∃v7:Value,∃x19:(List Int),∃x20:Bool,(x19,x20)=r5∧l=[(0,(I a1)),(1,(.func (.func 68) #[] #[(ptr pb1 0),(ptr pb2 0),(ptr pb3 0)])),(6,v7),(11,(I (shl 1 a1))),(12,(I x3))]∧Below w9.heap.size w9 w∧Ctx [] w0 w [Ab v7 (x19:(List Int))]∧NilB v7 x20) ?_ ?_
    ·refine AI z (fun hc8=>?_) (fun hc8=>?_)
     ·replace hr9:=AC hr9 hc8
      refine Bb<|Ag z z<|Ae z z<|Ac<|?_
      obtain rfl:=Aa hr9
      have hC25:=hC19.h1
      exact Ak (l':=[(0,(I a1)),(1,(.func (.func 68) #[] #[(ptr pb1 0),(ptr pb2 0),(ptr pb3 0)])),(6,v4),(11,(I (shl 1 a1))),(12,(I x3))]) ⟨z,z,z,z,z,Ai⟩<|⟨v4,x9,x10,z,z,(Al _ _),hC25,hnb4⟩
     replace hr9:=AD hr9 hc8
     refine AJ ?_
     obtain rfl:=Aa hr9
     have hC26:=hC19.f1
     have hC27:=hC26.h1
     exact Ak (l':=[(0,(I a1)),(1,(.func (.func 68) #[] #[(ptr pb1 0),(ptr pb2 0),(ptr pb3 0)])),(6,v1),(11,(I (shl 1 a1))),(12,(I x3))]) ⟨z,z,z,z,z,Ai⟩<|⟨v1,x1,x2,z,z,(Al _ _),hC27,hnb1⟩
    rintro l6 _ w14 hs6 ⟨v7,x19,x20,rfl,rfl,hB12,hC24,hnb6⟩
    try dsimp only at hL1
    refine AM<|AL hs6<|?_
    clear hs6
    exact Bb<|Bj z z z<|Ag z z<|Ac<|Ak (l':=[(0,(I a1)),(1,(.func (.func 68) #[] #[(ptr pb1 0),(ptr pb2 0),(ptr pb3 0)])),(6,v7),(11,(I (shl 1 a1))),(12,(I (w64 (x3+1))))]) ⟨z,z,z,z,z,Ai⟩<|⟨k1,Av _,v7,x19,x20,w64 (x3+1),z,hC24,hnb6,hL1⟩
   replace hL1:=AD hL1 hc1
   refine Bt (A1 (A1 (Be ?_)))
   obtain rfl:=Aa hL1
   exact Ak (l':=[(6,v1)]) ⟨z,Ai⟩<|⟨v1,x1,x2,z,z,hC1,hnb1⟩
 rintro l7 _ w15 hs7 ⟨v2,x4,x5,rfl,rfl,hC29,hnb2⟩
 try dsimp only at hF
 refine AL hs7 ?_
 clear hs7
 refine Ad<|Ag z z<|Ag z z<|WL_nil_neq Ah hnb2 z z<|Ae z z<|Ae z z<|Ac<|AP<|?_
 obtain rfl:=Aa hF
 refine Cd z z z ?_
 have hC30:=hC29.triv (BK ((!x5)))
 have hC31:=hC30.f1
 exact ⟨_,z,res2_of hC31⟩
theorem c_M_LeastDisclosure {w0:World} (a1:(List Int)) (u1:Value) (g1:RO [] w0 u1 a1) (a2:(List (Int × (List Int) × Int × Int × Int))) (u2:Value) (g2:RO [] w0 u2 a2) (a3:((List Int) × (List (Int × (List Int))))) (u3:Value) (g3:RO [] w0 u3 a3.1) (u4:Value) (g4:RO [] w0 u4 a3.2) (a4:(List Int)) (u5:Value) (g5:RO [] w0 u5 a4) (rr:((List Int) × Bool)) (hF:M.LeastDisclosure a1 a2 a3 a4=some rr) :
 Calls Tryz.prog 28 [u1,u2,(.agg #[u3,u4]),u5].toArray w0 fun e w'=>∃v,e=.returned v∧Res2 w0 rr.1 rr.2 v w':=by
 refine Au Tryz.func28 z z ?_
 have hC0:=AA w0
 unfold M.LeastDisclosure at hF
 refine Ad<|Bv (cs:=[u2]) hC0 (Cj g2) z z fun b1 w1 hC1 hB1 hN1=>Bv (cs:=[u3,u4]) hC1 z z z fun b2 w2 hC2 hB2 hN2=>Bv (cs:=[u5]) hC2 (Cj g5) z z fun b3 w3 hC3 hB3 hN3=>Ae z z<|Ae z z<|Ac<|Ad<|A9 [u3,u4] hC3 1 z z z AT A4 z z<|be hF fun x1 hr1 hF=>A7 Tryz.call63 z z (c_M_ConstantsOf (a3.1,a3.2) u3 (g3.now hC3.keep) u4 (g4.now hC3.keep) x1 hr1)<|?_
 rintro v1 w4 ⟨hB4,F1,hv1,hn1,hb1⟩
 have hC4:=hC3.push hB4 (A:=Ab v1 x1) hv1 hn1 hb1
 refine Ae z z<|Ac<|A6<|be hF fun r1 hr2 hF=>BA (fun l w=>∃x2:Bool,x2=r1∧l=[(5,(ptr b1 0)),(6,(ptr b2 0)),(7,(ptr b3 0)),(10,v1),(28,(.bool x2))]∧Below w4.heap.size w4 w∧Ctx [] w0 w [Ab v1 (x1:(List Int)),Af b3 [u5],Af b2 [u3,u4],Af b1 [u2]]) ?_ ?_
 ·refine Bb<|Ag z z<|Ao hC4 3 z z Tryz.isAgg33 z z<|A9 [u3,u4] hC4 2 z z z AT A4 z z<|be hr2 fun x3 hr3 hr2=>cb Tryz.call58 z z (c_M_areAsked a1 u1 (g1.now hC4.keep) a2 u2 (g2.now hC4.keep) (a3.1,a3.2) u3 (g3.now hC4.keep) u4 (g4.now hC4.keep) x3 hr3) fun w6 hB6=>have hC6:=hC4.grow hB6;Bx z z<|Ag z z<|Br (fun hc1=>?_) (fun hc1=>?_)
  ·replace hr2:=AC hr2 hc1
   refine gs z z z z<|gs z z z z<|gs z z z z<|AV z z z<|Ac<|?_
   obtain rfl:=Aa hr2
   exact Ak (l':=[(5,(ptr b1 0)),(6,(ptr b2 0)),(7,(ptr b3 0)),(10,v1),(28,(.bool true))]) ⟨z,z,z,z,z,Ai⟩<|⟨true,z,z,(Ap hB6).below,hC6⟩
  replace hr2:=AD hr2 hc1
  refine Aj z z<|Ag z z<|Aj z z<|AZ Ah (hC6.ro 0 z) z z<|Aj z z<|C8 z z z<|AS z z z<|Ac<|?_
  obtain rfl:=Aa hr2
  exact Ak (l':=[(5,(ptr b1 0)),(6,(ptr b2 0)),(7,(ptr b3 0)),(10,v1),(28,(.bool (decide (8 < (List.length x1:Int)))))]) ⟨z,z,z,z,z,Ai⟩<|⟨(decide (8 < (List.length x1:Int))),z,z,(Ap hB6).below,hC6⟩
 rintro _ w5 ⟨x2,rfl,rfl,hB5,hC5⟩
 try dsimp only at hF
 refine AI z (fun hc2=>?_) (fun hc2=>?_)
 ·replace hF:=AC hF hc2
  refine Ad<|Ae z z<|Ae z z<|Ac<|AP<|Az<|?_
  obtain rfl:=Aa hF
  refine Cd z z z ?_
  have hC7:=hC5.triv (BK (false))
  have hC8:=hC7.triv (nil_val (α:=Int))
  exact ⟨_,z,res2_of hC8⟩
 replace hF:=AD hF hc2
 refine AJ<|Am<|Ad<|Ag z z<|BL z z<|be hF fun x4 hr4 hF=>?_
 obtain ⟨Fs1,hH1,hn2,hF1,hO1,hX1,hb2⟩:=BF (As:=[Af b3 [u5],Af b2 [u3,u4],Af b1 [u2]]) [Ab v1 (x1:(List Int))] hC5
 refine A7 B7 z z (c_Slices_DeleteFunc_Lint_int_M_LeastDisclosure_c1 x1 v1 b3 a4 (roat_box (hX1 0 _ _ z) (repd_slice (Bf g5 hC5.keep hF1))) hH1 hn2 x4 hr4) ?_
 rintro v2 w7 ⟨_,rfl,hq4⟩
 have hC10:Ctx [] w0 w7 [Ab v2 (x4:(List Int)),Af b3 [u5],Af b2 [u3,u4],Af b1 [u2]]:=hb2 _ _ hq4
 refine By hC10 zero22 z z fun b4 w9 hC11 hB7 hN4=>B3 (cs':=[v2]) hC11 0 z z (Bz (hC11.ro 1 z)) z Aw z z fun w10 hC12 hKp1=>?_
 try dsimp only [List.set] at hC12
 have hk1:=AY (Ap hB7) hN4 hKp1
 refine Ac<|Ad<|Ao hC12 0 z z AQ z z<|AZ Ah (hC12.ro 1 z) z z<|BL z z<|be hF fun x5 hr5 hF=>A7 Tryz.call67 z z (c_M_smallest_M_LeastDisclosure_c2 (List.length x4:Int) b1 a2 (hC12.boxAt 4 z (repw_slice (g2.now hC12.keep))) b2 (a3.1,a3.2) (hC12.boxAt 3 z (repw_pair (repw_slice (g3.now hC12.keep)) (repw_slice (g4.now hC12.keep)))) b4 x4 (hC12.boxAt 0 z (repw_slice (hC12.ro 1 z))) x5 hr5)<|?_
 rintro _ w11 ⟨hB8,v3,v4,F2,F3,rfl,hv3,hv4,hn3,hb3⟩
 obtain ⟨rfl,rfl⟩:=val_bool hv4
 have hC13:=hC12.pushL hB8 (Bs:=[Ab v3 x5.1]) (Fs:=[F2]) ⟨F2,_,z,hv3,z⟩ (by simpa using hn3) (fun b h=>hb3 b (by simpa using h))
 refine Ag z z<|AF z z z<|AF z z z<|Ae z z<|Ae z z<|Ac<|A6<|Ad<|Ag z z<|Bx z z<|Ac<|AI z (fun hc3=>?_) (fun hc3=>?_)
 ·replace hF:=AC hF hc3
  refine Ad<|Ae z z<|Ae z z<|Ac<|AP<|Az<|?_
  obtain rfl:=Aa hF
  refine Cd z z z ?_
  have hC14:=hC13.triv (BK (false))
  have hC15:=hC14.triv (nil_val (α:=Int))
  exact ⟨_,z,res2_of hC15⟩
 replace hF:=AD hF hc3
 refine AJ<|Am<|Ad<|A2 (vs:=[]) hC13 Ah ty3 z z z z (by simp) z z fun b5 w12 hC16 hB9=>?_
 have hC17:=hC16.row0 (α:=Int)
 have hC18:=hC17.front 1 z
 dsimp only [List.eraseIdx,List.cons_append,List.nil_append,List.append_nil] at hC18
 have hC19:Ctx [] w0 w12 (Ab (.slice (some ⟨b5,0,none⟩) 0 0) (([]:List Int):List Int)::[Ab v3 (x5.1:(List Int)),Af b4 [v2],Ab v2 (x4:(List Int)),Af b3 [u5],Af b2 [u3,u4],Af b1 [u2]]):=hC18.rowOwn (by simp [maxLen])
 refine Ae z z<|Ac<|A6<|Ad<|Ag z z<|AZ Ah (hC19.ro 1 z) z z<|Ag z z<|Ac<|be hF fun r2 hr6 hF=>Bd (fun l w=>∃v6:Value,∃x8:(List Int),x8=r2∧l=[(14,v6)]∧Ctx [] w0 w [Ab v6 (x8:(List Int))]) ?_ ?_
 ·refine AH<|have hC34:=hC19.f3;have hC35:=hC34.f3;have hC36:=hC35.f3;have hC37:=hC36.f3;have hC38:=hC37.h4;wS (l':=[(11,(ptr b4 0)),(14,(.slice (some ⟨b5,0,none⟩) 0 0)),(42,v3),(43,(I (List.length x5.1:Int))),(44,(I 0))]) ⟨z,z,z,z,z,Ai⟩<|Bu (fun k l w=>∃v5:Value,∃x6:(List Int),∃x7:Int,l=[(11,(ptr b4 0)),(14,v5),(42,v3),(43,(I (List.length x5.1:Int))),(44,(I x7))]∧Ctx [] w0 w [Ab v5 (x6:(List Int)),Ab v3 (x5.1:(List Int)),Af b4 [v2],Ab v2 (x4:(List Int))]∧M.LeastDisclosure_l1 x5 x4 k x6 x7=some r2) FUEL ⟨(.slice (some ⟨b5,0,none⟩) 0 0),([]:List Int),0,z,hC38,hr6⟩<|?_
  clear hr6
  rintro k1 _ w13 ⟨v5,x6,x7,rfl,hC20,hL1⟩
  cases k1 with
  | zero=>rw [M.LeastDisclosure_l1] at hL1; cases hL1
  | succ k1 =>
   rw [M.LeastDisclosure_l1] at hL1
   refine Ad<|Bo z z z<|Ac<|A6<|AI z (fun hc4=>?_) (fun hc4=>?_)
   ·replace hL1:=AC hL1 hc4
    refine AJ<|Am<|A6<|AH<|Ad<|be hL1 fun x9 hx1 hL1=>AG Ah ty3 (hC20.ro 1 z) hx1 z z z fun b6 o1 h1=>A3 ty3 h1 (Aq _ _) z z fun v7 h2=>?_
    obtain rfl:=Bn h2
    refine Ae z z<|Ac<|Bb<|Ag z z<|Ao hC20 2 z z AQ z z<|Ag z z<|be hL1 fun x10 hx2 hL1=>AG Ah ty3 (hC20.ro 3 z) hx2 z z z fun b7 o2 h3=>A3 ty3 h3 (Aq _ _) z z fun v8 h4=>?_
    obtain rfl:=Bn h4
    refine A2 (vs:=[(I x10)]) hC20 Ah ty3 z z z z (fac z<|fa0) z z (fun b8 w14 hC21 hB11=>?_)
    have hC22:=hC21.row0 (α:=Int)
    have hC23:=hC22.triv (Bm (x10))
    have hC24:=hC23.row1
    have hC25:=hC24.front 1 z
    dsimp only [List.eraseIdx,List.cons_append,List.nil_append,List.append_nil] at hC25
    have hC26:Ctx [] w0 w14 (Ab (.slice (some ⟨b8,0,none⟩) 1 1) ([x10]:List Int)::[Ab v5 (x6:(List Int)),Ab v3 (x5.1:(List Int)),Af b4 [v2],Ab v2 (x4:(List Int))]):=hC25.rowOwn (by simp [maxLen])
    refine be hL1 fun x11 hx3 hL1=>Bi (α:=Int) hC26 1 z (hC26.ro 0 z) (Aq _ _) Ah ty3 z hx3 z z z fun v9 w15 hC27=>?_
    try dsimp only [List.set] at hC27
    exact Ae z z<|Ac<|AM<|Am<|Bb<|Bj z z z<|Ag z z<|Ac<|have hC28:=hC27.f4;have hC29:=hC28.f4;have hC30:=hC29.f4;have hC31:=hC30.f4;have hC32:=hC31.h4;Ak (l':=[(11,(ptr b4 0)),(14,v9),(42,v3),(43,(I (List.length x5.1:Int))),(44,(I (w64 (x7+1))))]) ⟨z,z,z,z,z,Ai⟩<|⟨k1,Av _,v9,x11,w64 (x7+1),z,hC32,hL1⟩
   replace hL1:=AD hL1 hc4
   refine Bt (A1 (A1 (Be ?_)))
   obtain rfl:=Aa hL1
   have hC33:=hC20.h1
   exact Ak (l':=[(14,v5)]) ⟨z,Ai⟩<|⟨v5,x6,z,z,hC33⟩
 rintro l3 _ w16 hs3 ⟨v6,x8,rfl,rfl,hC39⟩
 try dsimp only at hF
 refine AL hs3 ?_
 clear hs3
 refine Ad<|Ag z z<|Ae z z<|Ae z z<|Ac<|AP<|?_
 obtain rfl:=Aa hF
 refine Cd z z z ?_
 have hC40:=hC39.triv (BK (true))
 have hC41:=hC40.f1
 exact ⟨_,z,res2_of hC41⟩
theorem c_Q_big {w0:World} (a1:(List UInt8)) (u1:Value) (g1:RO [] w0 u1 a1) (rr:Bool) (hF:Q.big a1=some rr) :
 Calls Tryz.prog 30 [u1].toArray w0 fun e w'=>∃v,e=.returned v∧Res w0 rr v w':=by
 refine Au Tryz.func30 z z ?_
 have hC0:=AA w0
 unfold Q.big at hF
 refine Ad<|Ae z z<|Ac<|Ad<|Ag z z<|AZ BR g1 z z<|C8 z z z<|Ae z z<|Ac<|AP<|?_
 obtain rfl:=Aa hF
 exact A8 z z<|⟨_,z,AR hC0 _⟩
theorem c_S_l1New {w0:World} (a1:(List UInt8)) (u1:Value) (g1:RO [] w0 u1 a1) (rr:((List UInt8) × Int × Int)) (hF:S.l1New a1=some rr) :
 Calls Tryz.prog 75 [u1].toArray w0 fun e w'=>∃v,e=.returned v∧∃q0:Nat,v=(ptr q0 0)∧Ctx [] w0 w' [Af q0 [u1,(I rr.2.1),(I rr.2.2)]]:=by
 refine Au Tryz.func75 z z ?_
 have hC0:=AA w0
 unfold S.l1New at hF
 refine Ad<|Ae z z<|Ac<|Ad<|Ag z z<|AZ BR g1 z z<|Bj z z z<|Ae z z<|Ac<|A6<|Ad<|Ae z z<|Ac<|be hF fun r1 hr1 hF=>Bd (fun l w=>∃x3:Int,x3=r1∧l=[(0,u1),(3,(I x3))]∧Below w0.heap.size w0 w∧Ctx [] w0 w []) ?_ ?_
 ·refine AH<|wS (l':=[(0,u1),(3,(I (w64 (10101+(List.length a1:Int))))),(4,(I 0))]) ⟨z,z,z,Ai⟩<|Bu (fun k l w=>∃x1:Int,∃x2:Int,l=[(0,u1),(3,(I x1)),(4,(I x2))]∧Below w0.heap.size w0 w∧Ctx [] w0 w []∧S.l1New_l1 a1 k x1 x2=some r1) FUEL ⟨w64 (10101+(List.length a1:Int)),0,z,(Al _ _),hC0,hr1⟩<|?_
  clear hr1
  rintro k1 _ w1 ⟨x1,x2,rfl,hB1,hC1,hL1⟩
  cases k1 with
  | zero=>rw [S.l1New_l1] at hL1; cases hL1
  | succ k1 =>
   rw [S.l1New_l1] at hL1
   refine A6<|be hL1 fun r2 hr2 hL1=>BA (fun l w=>∃x4:Bool,x4=r2∧l=[(0,u1),(3,(I x1)),(4,(I x2)),(15,(.bool x4))]∧Below w1.heap.size w1 w∧Ctx [] w0 w []) ?_ ?_
   ·refine Bb<|Ag z z<|Ag z z<|AZ BR g1 z z<|Bo z z z<|Ag z z<|Br (fun hc1=>?_) (fun hc1=>?_)
    ·replace hr2:=AC hr2 hc1
     refine Aj z z<|Ag z z<|Aj z z<|Bo z z z<|AV z z z<|Ac<|?_
     obtain rfl:=Aa hr2
     exact Ak (l':=[(0,u1),(3,(I x1)),(4,(I x2)),(15,(.bool (decide (x2 < 4000))))]) ⟨z,z,z,z,Ai⟩<|⟨(decide (x2 < 4000)),z,z,(Al _ _),hC1⟩
    replace hr2:=AD hr2 hc1
    refine gs z z z z<|gs z z z z<|AS z z z<|Ac<|?_
    obtain rfl:=Aa hr2
    exact Ak (l':=[(0,u1),(3,(I x1)),(4,(I x2)),(15,(.bool false))]) ⟨z,z,z,z,Ai⟩<|⟨false,z,z,(Al _ _),hC1⟩
   rintro _ w2 ⟨x4,rfl,rfl,hB2,hC2⟩
   try dsimp only at hL1
   refine AI z (fun hc2=>?_) (fun hc2=>?_)
   ·replace hL1:=AC hL1 hc2
    refine AJ<|Am<|A6<|AH<|Bb<|Ag z z<|WL_mul z z z<|Ag z z<|Ag z z<|be hL1 fun x5 hx1 hL1=>AG BR ty5 g1 hx1 z z z fun b1 o1 h1=>A3 ty5 h1 hC2.keep z z fun v1 h2=>?_
    obtain rfl:=ro_u8 h2
    exact WL_conv_i64 C6 BY z z<|Bj z z z<|Bj z z z<|WL_band z z z<|Ae z z<|Ac<|AM<|Am<|Bb<|Ag z z<|Bj z z z<|Ae z z<|Ac<|Ak (l':=[(0,u1),(3,(I (band (w64 ((w64 ((w64 (x1 * 131))+(w64 (UInt8.toNat x5:Int))))+7)) 1073741823))),(4,(I (w64 (x2+1))))]) ⟨z,z,z,Ai⟩<|⟨k1,Av _,band (w64 ((w64 ((w64 (x1 * 131))+(w64 (UInt8.toNat x5:Int))))+7)) 1073741823,w64 (x2+1),z,((Ap hB1).then hB2).below,hC2,hL1⟩
   replace hL1:=AD hL1 hc2
   refine Bt (A1 (A1 (Be ?_)))
   obtain rfl:=Aa hL1
   exact Ak (l':=[(0,u1),(3,(I x1))]) ⟨z,z,Ai⟩<|⟨x1,z,z,((Ap hB1).then hB2).below,hC2⟩
 rintro l3 _ w3 hs3 ⟨x3,rfl,rfl,hB3,hC3⟩
 try dsimp only at hF
 refine AL hs3 ?_
 clear hs3
 refine Ad<|Ag z z<|Ag z z<|Ck (vs:=[(0,u1),(2,(I x3))]) z z z (built121_0_2 (Cj g1) z)<|Bv (cs:=[u1,(I 0),(I x3)]) hC3 z z z fun b2 w4 hC4 hB4 hN1=>Ae z z<|Ac<|AP<|?_
 obtain rfl:=Aa hF
 exact A8 z z<|⟨_,z,_,z,hC4⟩
theorem c_S_l1Byte {w0:World} {Fs:List (List Nat)} (pb1:Nat) (a1:((List UInt8) × Int × Int)) (u1:Value) (g1:RO Fs.flatten w0 u1 a1.1) (hH:Hold [Af pb1 [u1,(I a1.2.1),(I a1.2.2)]] w0 Fs) (hn:Fs.flatten.Nodup) (rr:(Int × ((List UInt8) × Int × Int))) (hF:S.l1Byte a1=some rr) :
 Calls Tryz.prog 132 [(ptr pb1 0)].toArray w0 fun e w'=>∃v,e=.returned v∧v=(I rr.1)∧Ctx Fs.flatten w0 w' [Af pb1 [u1,(I rr.2.2.1),(I rr.2.2.2)]]:=by
 refine Au Tryz.func132 z z ?_
 have hC0:=BD hH hn
 unfold S.l1Byte at hF
 refine Ad<|Ae z z<|Ac<|Ad<|Ag z z<|Ag z z<|BZ z z<|fd BB AE z z z z<|Ao hC0 0 z z Bl z z<|WL_mul z z z<|Bj z z z<|BZ z z<|fd BB AE z z z z<|B3 (cs':=[u1,(I a1.2.1),(I (w64 ((w64 (a1.2.2 * 6364136223846793005))+1442695040888963407)))]) hC0 0 z z z z AE z z fun w1 hC1 hKp1=>?_
 try dsimp only [List.set] at hC1
 refine Ac<|A6<|B1 13 z hmix fun w2 hB1=>have hC2:=hC1.grow hB1;tm 0 z z z<|tk 1 z z (Cx z)<|BZ z z<|Ac<|tf 2 BB AE z z z z z<|tm 5 z z z<|tk 6 z z (Cx z)<|BZ z z<|Ac<|tf 7 BB AE z z z z z<|wAS (l':=[(0,(ptr pb1 0)),(2,(I 0)),(4,(ptr pb1 0)),(5,(ptr pb1 0)),(6,(ptr pb1 0)),(7,(ptr pb1 2)),(8,(I a1.2.2)),(9,(I (w64 (a1.2.2 * 6364136223846793005)))),(10,(I (w64 ((w64 (a1.2.2 * 6364136223846793005))+1442695040888963407)))),(11,(ptr pb1 0)),(12,(ptr pb1 2)),(13,(ptr pb1 0)),(14,(ptr pb1 0)),(15,(ptr pb1 2)),(18,(ptr pb1 0)),(19,(ptr pb1 0)),(20,(ptr pb1 2))]) ⟨z,z,z,z,z,z,z,z,z,z,z,z,z,z,z,z,z,Ai⟩<|Bw [⟨3,[],fun vs=>Bh (I (w64 ((w64 (a1.2.2 * 6364136223846793005))+1442695040888963407))),[]⟩,⟨4,[],fun vs=>Bh (I (shr (w64 ((w64 (a1.2.2 * 6364136223846793005))+1442695040888963407)) 33)),[]⟩,⟨8,[],fun vs=>Bh (I (w64 ((w64 (a1.2.2 * 6364136223846793005))+1442695040888963407))),[]⟩,⟨9,[],fun vs=>Bh (I (shr (w64 ((w64 (a1.2.2 * 6364136223846793005))+1442695040888963407)) 45)),[]⟩] [[],[3],[],[8]] 3 z (by kernel_rfl) (by kernel_rfl) z ?_ ?_
 ·refine An z ?_ ?_
  ·intro w3 hB2
   refine Ar<|⟨_,z,?_⟩
   exact Ao (hC2.grow hB2) 0 z z Bl z z<|Ac<|Ay (Al _ _) z z ⟨z,z⟩
  refine An z ?_ ?_
  ·intro w3 hB2
   refine AK z z z ?_
   rintro _ _ ⟨rfl,rfl⟩ _
   refine Ar<|⟨_,z,?_⟩
   exact WL_shr (by decide) z z z<|Ac<|Ay (Al _ _) z z ⟨z,z⟩
  refine An z ?_ ?_
  ·intro w3 hB2
   refine Ar<|⟨_,z,?_⟩
   exact Ao (hC2.grow hB2) 0 z z Bl z z<|Ac<|Ay (Al _ _) z z ⟨z,z⟩
  refine An z ?_ ?_
  ·intro w3 hB2
   refine AK z z z ?_
   rintro _ _ ⟨rfl,rfl⟩ _
   refine Ar<|⟨_,z,?_⟩
   exact WL_shr (by decide) z z z<|Ac<|Ay (Al _ _) z z ⟨z,z⟩
  exact Bp
 intro w4 hB3
 refine At z z z ?_
 rintro _ _ ⟨rfl,rfl⟩
 refine At z z z ?_
 rintro _ _ ⟨rfl,rfl⟩
 refine At z z z ?_
 rintro _ _ ⟨rfl,rfl⟩
 refine At z z z ?_
 rintro _ _ ⟨rfl,rfl⟩
 refine B0 fun hn1 hb1=>have hC3:=hC2.grow hB3;tk 10 z z (fl_bxor z z)<|WL_bxor z z z<|Ac<|tk 11 z z (fl_band z z)<|WL_band z z z<|Ac<|ta 12 z z z<|dn<|Am<|A6<|A6<|B1 10 z hmix fun w5 hB4=>have hC4:=hC3.grow hB4;tm 0 z z z<|tk 1 z z (Cx z)<|BZ z z<|Ac<|tf 2 BB AE z z z z z<|tm 4 z z z<|tk 5 z z (Cx z)<|BZ z z<|Ac<|tf 6 BB Tryz.sizeOf55 z z z z z<|wAS (l':=[(0,(ptr pb1 0)),(2,(I 0)),(3,(I (band (bxor (shr (w64 ((w64 (a1.2.2 * 6364136223846793005))+1442695040888963407)) 33) (shr (w64 ((w64 (a1.2.2 * 6364136223846793005))+1442695040888963407)) 45)) 255))),(4,(ptr pb1 0)),(5,(ptr pb1 0)),(6,(ptr pb1 0)),(7,(ptr pb1 2)),(8,(I a1.2.2)),(9,(I (w64 (a1.2.2 * 6364136223846793005)))),(10,(I (w64 ((w64 (a1.2.2 * 6364136223846793005))+1442695040888963407)))),(11,(ptr pb1 0)),(12,(ptr pb1 2)),(13,(ptr pb1 0)),(14,(ptr pb1 0)),(15,(ptr pb1 2)),(16,(I (w64 ((w64 (a1.2.2 * 6364136223846793005))+1442695040888963407)))),(17,(I (shr (w64 ((w64 (a1.2.2 * 6364136223846793005))+1442695040888963407)) 33))),(18,(ptr pb1 0)),(19,(ptr pb1 0)),(20,(ptr pb1 2)),(21,(I (w64 ((w64 (a1.2.2 * 6364136223846793005))+1442695040888963407)))),(22,(I (shr (w64 ((w64 (a1.2.2 * 6364136223846793005))+1442695040888963407)) 45))),(23,(I (bxor (shr (w64 ((w64 (a1.2.2 * 6364136223846793005))+1442695040888963407)) 33) (shr (w64 ((w64 (a1.2.2 * 6364136223846793005))+1442695040888963407)) 45)))),(24,(I (band (bxor (shr (w64 ((w64 (a1.2.2 * 6364136223846793005))+1442695040888963407)) 33) (shr (w64 ((w64 (a1.2.2 * 6364136223846793005))+1442695040888963407)) 45)) 255))),(25,(ptr pb1 0)),(26,(ptr pb1 0)),(27,(ptr pb1 1)),(29,(ptr pb1 0)),(30,(ptr pb1 0)),(31,(ptr pb1 0))]) ⟨z,z,z,z,z,z,z,z,z,z,z,z,z,z,z,z,z,z,z,z,z,z,z,z,z,z,z,z,z,z,Ai⟩<|Bw [⟨3,[],fun vs=>Bh (I a1.2.1),[]⟩,⟨7,[],fun vs=>Bh u1,[]⟩,⟨8,[],fun vs=>Bh (I (List.length a1.1:Int)),[]⟩] [[],[],[7]] 1 z (by kernel_rfl) (by kernel_rfl) z ?_ ?_
 ·refine An z ?_ ?_
  ·intro w6 hB5
   refine Ar<|⟨_,z,?_⟩
   exact Ao (hC4.grow hB5) 0 z z Bl z z<|Ac<|Ay (Al _ _) z z ⟨z,z⟩
  refine An z ?_ ?_
  ·intro w6 hB5
   refine Ar<|⟨_,z,?_⟩
   exact Ao (hC4.grow hB5) 0 z z Tryz.isAgg55 z z<|Ac<|Ay (Al _ _) z z ⟨z,z⟩
  refine An z ?_ ?_
  ·intro w6 hB5
   refine AK z z z ?_
   rintro _ _ ⟨rfl,rfl⟩ _
   refine Ar<|⟨_,z,?_⟩
   exact AZ BR g1 z z<|Ac<|Ay (Al _ _) z z ⟨z,z⟩
  exact Bp
 intro w7 hB6
 refine At z z z ?_
 rintro _ _ ⟨rfl,rfl⟩
 refine At z z z ?_
 rintro _ _ ⟨rfl,rfl⟩
 refine At z z z ?_
 rintro _ _ ⟨rfl,rfl⟩
 refine B0 fun hn2 hb2=>have hC5:=hC4.grow hB6;tk 9 z z (fl_lss z z)<|Bo z z z<|Ac<|dn<|Am<|be hF fun r1 hr1 hF=>Bd (fun l w=>∃x1:Int,∃x2:Int,∃x3:Int,(x1,x2,x3)=r1∧l=[(3,(I x3))]∧Ctx Fs.flatten w0 w [Af pb1 [u1,(I x1),(I x2)]]) ?_ ?_
 ·refine AI z (fun hc1=>?_) (fun hc1=>?_)
  ·replace hr1:=AC hr1 hc1
   refine A6<|B1 15 z hmix fun w10 hB8=>have hC7:=hC5.grow hB8;tm 0 z z z<|tm 1 z z z<|tk 2 z z (Cx z)<|BZ z z<|Ac<|tf 3 BB Tryz.sizeOf55 z z z z z<|tm 5 z z z<|tk 6 z z (Cx z)<|BZ z z<|Ac<|tf 7 BB AE z z z z z<|wAS (l':=[(0,(ptr pb1 0)),(2,(I 0)),(3,(I (band (bxor (shr (w64 ((w64 (a1.2.2 * 6364136223846793005))+1442695040888963407)) 33) (shr (w64 ((w64 (a1.2.2 * 6364136223846793005))+1442695040888963407)) 45)) 255))),(4,(ptr pb1 0)),(5,(ptr pb1 0)),(6,(ptr pb1 0)),(7,(ptr pb1 2)),(8,(I a1.2.2)),(9,(I (w64 (a1.2.2 * 6364136223846793005)))),(10,(I (w64 ((w64 (a1.2.2 * 6364136223846793005))+1442695040888963407)))),(11,(ptr pb1 0)),(12,(ptr pb1 2)),(13,(ptr pb1 0)),(14,(ptr pb1 0)),(15,(ptr pb1 2)),(16,(I (w64 ((w64 (a1.2.2 * 6364136223846793005))+1442695040888963407)))),(17,(I (shr (w64 ((w64 (a1.2.2 * 6364136223846793005))+1442695040888963407)) 33))),(18,(ptr pb1 0)),(19,(ptr pb1 0)),(20,(ptr pb1 2)),(21,(I (w64 ((w64 (a1.2.2 * 6364136223846793005))+1442695040888963407)))),(22,(I (shr (w64 ((w64 (a1.2.2 * 6364136223846793005))+1442695040888963407)) 45))),(23,(I (bxor (shr (w64 ((w64 (a1.2.2 * 6364136223846793005))+1442695040888963407)) 33) (shr (w64 ((w64 (a1.2.2 * 6364136223846793005))+1442695040888963407)) 45)))),(24,(I (band (bxor (shr (w64 ((w64 (a1.2.2 * 6364136223846793005))+1442695040888963407)) 33) (shr (w64 ((w64 (a1.2.2 * 6364136223846793005))+1442695040888963407)) 45)) 255))),(25,(ptr pb1 0)),(26,(ptr pb1 0)),(27,(ptr pb1 1)),(28,(I a1.2.1)),(29,(ptr pb1 0)),(30,(ptr pb1 0)),(31,(ptr pb1 0)),(32,u1),(33,(I (List.length a1.1:Int))),(34,(.bool (decide (a1.2.1 < (List.length a1.1:Int))))),(35,(I (band (bxor (shr (w64 ((w64 (a1.2.2 * 6364136223846793005))+1442695040888963407)) 33) (shr (w64 ((w64 (a1.2.2 * 6364136223846793005))+1442695040888963407)) 45)) 255))),(36,(ptr pb1 0)),(37,(ptr pb1 0)),(38,(ptr pb1 0)),(40,(ptr pb1 0)),(41,(ptr pb1 0)),(42,(ptr pb1 1))]) ⟨z,z,z,z,z,z,z,z,z,z,z,z,z,z,z,z,z,z,z,z,z,z,z,z,z,z,z,z,z,z,z,z,z,z,z,z,z,z,z,z,z,Ai⟩<|Bw [⟨4,[],fun vs=>Bh u1,[]⟩,⟨8,[],fun vs=>Bh (I a1.2.1),[]⟩] [[],[]] 6 z (by kernel_rfl) (by kernel_rfl) z ?_ ?_
   ·refine An z ?_ ?_
    ·intro w11 hB9
     refine Ar<|⟨_,z,?_⟩
     exact Ao (hC7.grow hB9) 0 z z Tryz.isAgg55 z z<|Ac<|Ay (Al _ _) z z ⟨z,z⟩
    refine An z ?_ ?_
    ·intro w11 hB9
     refine Ar<|⟨_,z,?_⟩
     exact Ao (hC7.grow hB9) 0 z z Bl z z<|Ac<|Ay (Al _ _) z z ⟨z,z⟩
    exact Bp
   intro w12 hB10
   refine At z z z ?_
   rintro _ _ ⟨rfl,rfl⟩
   refine At z z z ?_
   rintro _ _ ⟨rfl,rfl⟩
   refine B0 fun hn3 hb3=>have hC8:=hC7.grow hB10;be hr1 fun x4 hx1 hr1=>tk 9 z z (B4 BR ty5 g1 hx1 z z)<|AG BR ty5 g1 hx1 z z z fun b1 o1 h1=>Ac<|oe 10 z<|A3 ty5 h1 hC8.keep z z fun v1 h2=>?_
   obtain rfl:=ro_u8 h2
   refine Ac<|tk 11 z z (fl_conv_int C6 BY z)<|WL_conv_i64 C6 BY z z<|Ac<|tk 12 z z (fl_add z z)<|Bj z z z<|Ac<|tk 13 z z (fl_band z z)<|WL_band z z z<|Ac<|ta 14 z z z<|dn<|Am<|Bb<|Ag z z<|Ag z z<|BZ z z<|fd BB AE z z z z<|Ao hC8 0 z z Bl z z<|Bj z z z<|BZ z z<|fd BB AE z z z z<|B3 (cs':=[u1,(I (w64 (a1.2.1+1))),(I (w64 ((w64 (a1.2.2 * 6364136223846793005))+1442695040888963407)))]) hC8 0 z z z z AE z z fun w13 hC9 hKp2=>?_
   try dsimp only [List.set] at hC9
   refine Ac ?_
   obtain rfl:=Aa hr1
   exact Ak (l':=[(3,(I (band (w64 ((band (bxor (shr (w64 ((w64 (a1.2.2 * 6364136223846793005))+1442695040888963407)) 33) (shr (w64 ((w64 (a1.2.2 * 6364136223846793005))+1442695040888963407)) 45)) 255)+(w64 (UInt8.toNat x4:Int)))) 255)))]) ⟨z,Ai⟩<|⟨w64 (a1.2.1+1),w64 ((w64 (a1.2.2 * 6364136223846793005))+1442695040888963407),band (w64 ((band (bxor (shr (w64 ((w64 (a1.2.2 * 6364136223846793005))+1442695040888963407)) 33) (shr (w64 ((w64 (a1.2.2 * 6364136223846793005))+1442695040888963407)) 45)) 255)+(w64 (UInt8.toNat x4:Int)))) 255,z,z,hC9⟩
  replace hr1:=AD hr1 hc1
  refine AJ ?_
  obtain rfl:=Aa hr1
  exact Ak (l':=[(3,(I (band (bxor (shr (w64 ((w64 (a1.2.2 * 6364136223846793005))+1442695040888963407)) 33) (shr (w64 ((w64 (a1.2.2 * 6364136223846793005))+1442695040888963407)) 45)) 255)))]) ⟨z,Ai⟩<|⟨a1.2.1,w64 ((w64 (a1.2.2 * 6364136223846793005))+1442695040888963407),band (bxor (shr (w64 ((w64 (a1.2.2 * 6364136223846793005))+1442695040888963407)) 33) (shr (w64 ((w64 (a1.2.2 * 6364136223846793005))+1442695040888963407)) 45)) 255,z,z,hC5⟩
 rintro l1 _ w9 hs1 ⟨x1,x2,x3,rfl,rfl,hC6⟩
 try dsimp only at hF
 refine AL hs1 ?_
 clear hs1
 refine Ad<|Ag z z<|Ae z z<|Ac<|AP<|?_
 obtain rfl:=Aa hF
 exact A8 z z<|⟨_,z,z,hC6⟩
theorem c_S_l1Below {w0:World} {Fs:List (List Nat)} (pb1:Nat) (a1:((List UInt8) × Int × Int)) (u1:Value) (g1:RO Fs.flatten w0 u1 a1.1) (a2:Int) (hH:Hold [Af pb1 [u1,(I a1.2.1),(I a1.2.2)]] w0 Fs) (hn:Fs.flatten.Nodup) (rr:(Int × ((List UInt8) × Int × Int))) (hF:S.l1Below a1 a2=some rr) :
 Calls Tryz.prog 104 [(ptr pb1 0),(I a2)].toArray w0 fun e w'=>∃v,e=.returned v∧v=(I rr.1)∧Ctx Fs.flatten w0 w' [Af pb1 [u1,(I rr.2.2.1),(I rr.2.2.2)]]:=by
 refine Au Tryz.func104 z z ?_
 have hC0:=BD hH hn
 unfold S.l1Below at hF
 refine Ad<|Ae z z<|Ac<|A6<|Ad<|Ag z z<|C7 z z z<|Ac<|AI z (fun hc1=>?_) (fun hc1=>?_)
 ·replace hF:=AC hF hc1
  refine Ad<|Ae z z<|Ac<|AP<|Az<|?_
  obtain rfl:=Aa hF
  exact A8 z z<|⟨_,z,z,hC0⟩
 replace hF:=AD hF hc1
 refine AJ<|Am<|A6<|Ad<|Ag z z<|C7 z z z<|Ac<|AI z (fun hc2=>?_) (fun hc2=>?_)
 ·replace hF:=AC hF hc2
  refine Ad<|Ag z z<|be hF fun x1 hr1 hF=>?_
  obtain ⟨Fs1,hH1,hn1,hF1,hO1,hb1⟩:=AW (As:=[]) [Af pb1 [u1,(I a1.2.1),(I a1.2.2)]] hC0
  refine A7 C0 z z (c_S_l1Byte pb1 (a1.1,a1.2.1,a1.2.2) u1 (Bf g1 hC0.keep hF1) hH1 hn1 x1 hr1) ?_
  rintro _ w1 ⟨rfl,hq2⟩
  have hC1:Ctx Fs.flatten w0 w1 [Af pb1 [u1,(I x1.2.2.1),(I x1.2.2.2)]]:=hb1 _ _ hq2
  refine Ag z z<|be hF fun _ hx1 hF=>WL_rem (nz_some hx1) z z z<|Ae z z<|Ac<|AP<|Az<|?_
  obtain rfl:=Aa hF
  exact A8 z z<|⟨_,z,z,hC1⟩
 replace hF:=AD hF hc2
 refine AJ<|Am<|Ad<|Ag z z<|be hF fun x2 hr2 hF=>?_
 obtain ⟨Fs2,hH2,hn2,hF2,hO2,hb2⟩:=AW (As:=[]) [Af pb1 [u1,(I a1.2.1),(I a1.2.2)]] hC0
 refine A7 C0 z z (c_S_l1Byte pb1 (a1.1,a1.2.1,a1.2.2) u1 (Bf g1 hC0.keep hF2) hH2 hn2 x2 hr2) ?_
 rintro _ w2 ⟨rfl,hq4⟩
 have hC2:Ctx Fs.flatten w0 w2 [Af pb1 [u1,(I x2.2.2.1),(I x2.2.2.2)]]:=hb2 _ _ hq4
 refine Ae z z<|Ac<|Ad<|Ag z z<|be hF fun x3 hr3 hF=>?_
 obtain ⟨Fs3,hH3,hn3,hF3,hO3,hb3⟩:=AW (As:=[]) [Af pb1 [u1,(I x2.2.2.1),(I x2.2.2.2)]] hC2
 refine A7 C0 z z (c_S_l1Byte pb1 (a1.1,x2.2.2.1,x2.2.2.2) u1 (Bf g1 hC2.keep hF3) hH3 hn3 x3 hr3) ?_
 rintro _ w3 ⟨rfl,hq5⟩
 have hC3:Ctx Fs.flatten w0 w3 [Af pb1 [u1,(I x3.2.2.1),(I x3.2.2.2)]]:=hb3 _ _ hq5
 refine Ae z z<|Ac<|Ad<|Ag z z<|be hF fun x4 hr4 hF=>?_
 obtain ⟨Fs4,hH4,hn4,hF4,hO4,hb4⟩:=AW (As:=[]) [Af pb1 [u1,(I x3.2.2.1),(I x3.2.2.2)]] hC3
 refine A7 C0 z z (c_S_l1Byte pb1 (a1.1,x3.2.2.1,x3.2.2.2) u1 (Bf g1 hC3.keep hF4) hH4 hn4 x4 hr4) ?_
 rintro _ w4 ⟨rfl,hq6⟩
 have hC4:Ctx Fs.flatten w0 w4 [Af pb1 [u1,(I x4.2.2.1),(I x4.2.2.2)]]:=hb4 _ _ hq6
 refine Ae z z<|Ac<|Ad<|Ag z z<|be hF fun x5 hr5 hF=>?_
 obtain ⟨Fs5,hH5,hn5,hF5,hO5,hb5⟩:=AW (As:=[]) [Af pb1 [u1,(I x4.2.2.1),(I x4.2.2.2)]] hC4
 refine A7 C0 z z (c_S_l1Byte pb1 (a1.1,x4.2.2.1,x4.2.2.2) u1 (Bf g1 hC4.keep hF5) hH5 hn5 x5 hr5) ?_
 rintro _ w5 ⟨rfl,hq7⟩
 have hC5:Ctx Fs.flatten w0 w5 [Af pb1 [u1,(I x5.2.2.1),(I x5.2.2.2)]]:=hb5 _ _ hq7
 refine Ae z z<|Ac<|Ad<|Ag z z<|WL_mul z z z<|Ag z z<|WL_mul z z z<|Bj z z z<|Ag z z<|WL_mul z z z<|Bj z z z<|Ag z z<|Bj z z z<|Ag z z<|be hF fun _ hx2 hF=>WL_rem (nz_some hx2) z z z<|Ae z z<|Ac<|AP<|?_
 obtain rfl:=Aa hF
 exact A8 z z<|⟨_,z,z,hC5⟩
theorem c_S_l1Once {w0:World} {Fs:List (List Nat)} (pb1:Nat) (a1:((List UInt8) × Int × Int)) (u1:Value) (g1:RO Fs.flatten w0 u1 a1.1) (a2:Int) (hH:Hold [Af pb1 [u1,(I a1.2.1),(I a1.2.2)]] w0 Fs) (hn:Fs.flatten.Nodup) (rr:(Bool × ((List UInt8) × Int × Int))) (hF:S.l1Once a1 a2=some rr) :
 Calls Tryz.prog 105 [(ptr pb1 0),(I a2)].toArray w0 fun e w'=>∃v,e=.returned v∧v=(.bool rr.1)∧Ctx Fs.flatten w0 w' [Af pb1 [u1,(I rr.2.2.1),(I rr.2.2.2)]]:=by
 refine Au Tryz.func105 z z ?_
 have hC0:=BD hH hn
 unfold S.l1Once at hF
 refine Ad<|Ae z z<|Ac<|Ad<|Ag z z<|Ag z z<|be hF fun x1 hr1 hF=>?_
 obtain ⟨Fs1,hH1,hn1,hF1,hO1,hb1⟩:=AW (As:=[]) [Af pb1 [u1,(I a1.2.1),(I a1.2.2)]] hC0
 refine A7 B2 z z (c_S_l1Below pb1 (a1.1,a1.2.1,a1.2.2) u1 (Bf g1 hC0.keep hF1) a2 hH1 hn1 x1 hr1) ?_
 rintro _ w1 ⟨rfl,hq1⟩
 have hC1:Ctx Fs.flatten w0 w1 [Af pb1 [u1,(I x1.2.2.1),(I x1.2.2.2)]]:=hb1 _ _ hq1
 refine BT z z z<|Ae z z<|Ac<|AP<|?_
 obtain rfl:=Aa hF
 exact A8 z z<|⟨_,z,z,hC1⟩
theorem c_S_l30Private {w0:World} {Fs:List (List Nat)} (pb1:Nat) (a1:((List UInt8) × Int × Int)) (u1:Value) (g1:RO Fs.flatten w0 u1 a1.1) (hH:Hold [Af pb1 [u1,(I a1.2.1),(I a1.2.2)]] w0 Fs) (hn:Fs.flatten.Nodup) (rr:((List Int) × ((List UInt8) × Int × Int))) (hF:S.l30Private a1=some rr) :
 Calls Tryz.prog 77 [(ptr pb1 0)].toArray w0 fun e w'=>∃v,e=.returned v∧∃q0:Value,v=q0∧Ctx Fs.flatten w0 w' [Ab q0 (rr.1:(List Int)),Af pb1 [u1,(I rr.2.2.1),(I rr.2.2.2)]]:=by
 refine Au Tryz.func77 z z ?_
 have hC0:=BD hH hn
 unfold S.l30Private at hF
 refine Ad<|Ae z z<|Ac<|Ad<|A2 (vs:=[]) hC0 Ah ty3 z z z z (by simp) z z fun b1 w1 hC1 hB1=>?_
 have hC2:=hC1.row0 (α:=Int)
 have hC3:=hC2.front 1 z
 dsimp only [List.eraseIdx,List.cons_append,List.nil_append,List.append_nil] at hC3
 have hC4:Ctx Fs.flatten w0 w1 (Ab (.slice (some ⟨b1,0,none⟩) 0 0) (([]:List Int):List Int)::[Af pb1 [u1,(I a1.2.1),(I a1.2.2)]]):=hC3.rowOwn (by simp [maxLen])
 refine Ae z z<|Ac<|A6<|Ad<|Ae z z<|Ac<|be hF fun r1 hr1 hF=>Bd (fun l w=>∃x5:Int,∃x6:Int,∃v2:Value,∃x7:(List Int),(x5,x6,x7)=r1∧l=[(3,v2)]∧Ctx Fs.flatten w0 w [Ab v2 (x7:(List Int)),Af pb1 [u1,(I x5),(I x6)]]) ?_ ?_
 ·refine AH<|wS (l':=[(0,(ptr pb1 0)),(3,(.slice (some ⟨b1,0,none⟩) 0 0)),(4,(I 0))]) ⟨z,z,z,Ai⟩<|Bu (fun k l w=>∃x1:Int,∃x2:Int,∃v1:Value,∃x3:(List Int),∃x4:Int,l=[(0,(ptr pb1 0)),(3,v1),(4,(I x4))]∧Ctx Fs.flatten w0 w [Ab v1 (x3:(List Int)),Af pb1 [u1,(I x1),(I x2)]]∧S.l30Private_l1 a1 k x1 x2 x3 x4=some r1) FUEL ⟨a1.2.1,a1.2.2,(.slice (some ⟨b1,0,none⟩) 0 0),([]:List Int),0,z,hC4,hr1⟩<|?_
  clear hr1
  rintro k1 _ w2 ⟨x1,x2,v1,x3,x4,rfl,hC5,hL1⟩
  cases k1 with
  | zero=>rw [S.l30Private_l1] at hL1; cases hL1
  | succ k1 =>
   rw [S.l30Private_l1] at hL1
   refine A6<|Ad<|Ag z z<|Bo z z z<|Ac<|AI z (fun hc1=>?_) (fun hc1=>?_)
   ·replace hL1:=AC hL1 hc1
    refine AJ<|Am<|A6<|AH<|Ad<|Ag z z<|be hL1 fun x8 hr2 hL1=>have hC6:=hC5.f1;?_
    obtain ⟨Fs1,hH1,hn1,hF1,hO1,hb1⟩:=AW (As:=[Ab v1 (x3:(List Int))]) [Af pb1 [u1,(I x1),(I x2)]] hC6
    refine A7 Cg z z (c_S_l1Once pb1 (a1.1,x1,x2) u1 (Bf g1 hC6.keep hF1) 3 hH1 hn1 x8 hr2) ?_
    rintro _ w3 ⟨rfl,hq1⟩
    have hC7:Ctx Fs.flatten w0 w3 [Af pb1 [u1,(I x8.2.2.1),(I x8.2.2.2)],Ab v1 (x3:(List Int))]:=hb1 _ _ hq1
    refine Ac<|be hL1 fun r2 hr3 hL1=>Bd (fun l w=>∃v3:Value,∃x9:(List Int),x9=r2∧l=[(0,(ptr pb1 0)),(3,v3),(4,(I x4))]∧Ctx Fs.flatten w0 w [Af pb1 [u1,(I x8.2.2.1),(I x8.2.2.2)],Ab v3 (x9:(List Int))]) ?_ ?_
    ·refine AI z (fun hc2=>?_) (fun hc2=>?_)
     ·replace hr3:=AC hr3 hc2
      refine Bb<|Ag z z<|Ag z z<|A2 (vs:=[(I x4)]) hC7 Ah ty3 z z z z (fac z<|fa0) z z fun b2 w5 hC9 hB4=>?_
      have hC10:=hC9.row0 (α:=Int)
      have hC11:=hC10.triv (Bm (x4))
      have hC12:=hC11.row1
      have hC13:=hC12.front 1 z
      dsimp only [List.eraseIdx,List.cons_append,List.nil_append,List.append_nil] at hC13
      have hC14:Ctx Fs.flatten w0 w5 (Ab (.slice (some ⟨b2,0,none⟩) 1 1) ([x4]:List Int)::[Af pb1 [u1,(I x8.2.2.1),(I x8.2.2.2)],Ab v1 (x3:(List Int))]):=hC13.rowOwn (by simp [maxLen])
      refine be hr3 fun x10 hx1 hr3=>Bi (α:=Int) hC14 2 z (hC14.ro 0 z) (Aq _ _) Ah ty3 z hx1 z z z fun v4 w6 hC15=>?_
      try dsimp only [List.set] at hC15
      refine Ae z z<|Ac<|?_
      obtain rfl:=Aa hr3
      have hC16:=hC15.f2
      have hC17:=hC16.f2
      have hC18:=hC17.h2
      exact Ak (l':=[(0,(ptr pb1 0)),(3,v4),(4,(I x4))]) ⟨z,z,z,Ai⟩<|⟨v4,x10,z,z,hC18⟩
     replace hr3:=AD hr3 hc2
     refine AJ ?_
     obtain rfl:=Aa hr3
     exact Ak (l':=[(0,(ptr pb1 0)),(3,v1),(4,(I x4))]) ⟨z,z,z,Ai⟩<|⟨v1,x3,z,z,hC7⟩
    rintro l2 _ w4 hs2 ⟨v3,x9,rfl,rfl,hC8⟩
    try dsimp only at hL1
    refine AM<|AL hs2<|?_
    clear hs2
    exact Bb<|Ag z z<|Bj z z z<|Ae z z<|Ac<|have hC19:=hC8.f1;Ak (l':=[(0,(ptr pb1 0)),(3,v3),(4,(I (w64 (x4+1))))]) ⟨z,z,z,Ai⟩<|⟨k1,Av _,x8.2.2.1,x8.2.2.2,v3,x9,w64 (x4+1),z,hC19,hL1⟩
   replace hL1:=AD hL1 hc1
   refine Bt (A1 (A1 (Be ?_)))
   obtain rfl:=Aa hL1
   exact Ak (l':=[(3,v1)]) ⟨z,Ai⟩<|⟨x1,x2,v1,x3,z,z,hC5⟩
 rintro l3 _ w7 hs3 ⟨x5,x6,v2,x7,rfl,rfl,hC20⟩
 try dsimp only at hF
 refine AL hs3 ?_
 clear hs3
 refine Ad<|Ag z z<|Ae z z<|Ac<|AP<|?_
 obtain rfl:=Aa hF
 exact A8 z z<|have hC21:=hC20.f1;have hC22:=hC21.f1;⟨_,z,_,z,hC22⟩
theorem c_S_l2Schema {w0:World} {Fs:List (List Nat)} (pb1:Nat) (a1:((List UInt8) × Int × Int)) (u1:Value) (g1:RO Fs.flatten w0 u1 a1.1) (hH:Hold [Af pb1 [u1,(I a1.2.1),(I a1.2.2)]] w0 Fs) (hn:Fs.flatten.Nodup) (rr:((List Int) × ((List UInt8) × Int × Int))) (hF:S.l2Schema a1=some rr) :
 Calls Tryz.prog 126 [(ptr pb1 0)].toArray w0 fun e w'=>∃v,e=.returned v∧∃q0:Value,v=q0∧Ctx Fs.flatten w0 w' [Ab q0 (rr.1:(List Int)),Af pb1 [u1,(I rr.2.2.1),(I rr.2.2.2)]]:=by
 refine Au Tryz.func126 z z ?_
 have hC0:=BD hH hn
 unfold S.l2Schema at hF
 refine Ad<|Ae z z<|Ac<|Ad<|A2 (vs:=[]) hC0 Ah ty3 z z z z (by simp) z z fun b1 w1 hC1 hB1=>?_
 have hC2:=hC1.row0 (α:=Int)
 have hC3:=hC2.front 1 z
 dsimp only [List.eraseIdx,List.cons_append,List.nil_append,List.append_nil] at hC3
 have hC4:Ctx Fs.flatten w0 w1 (Ab (.slice (some ⟨b1,0,none⟩) 0 0) (([]:List Int):List Int)::[Af pb1 [u1,(I a1.2.1),(I a1.2.2)]]):=hC3.rowOwn (by simp [maxLen])
 refine Ae z z<|Ac<|A6<|Ad<|Ag z z<|be hF fun x1 hr1 hF=>have hC5:=hC4.f1;?_
 obtain ⟨Fs1,hH1,hn1,hF1,hO1,hb1⟩:=AW (As:=[Ab (.slice (some ⟨b1,0,none⟩) 0 0) (([]:List Int):(List Int))]) [Af pb1 [u1,(I a1.2.1),(I a1.2.2)]] hC5
 refine A7 B2 z z (c_S_l1Below pb1 (a1.1,a1.2.1,a1.2.2) u1 (Bf g1 hC5.keep hF1) 3 hH1 hn1 x1 hr1) ?_
 rintro _ w2 ⟨rfl,hq1⟩
 have hC6:Ctx Fs.flatten w0 w2 [Af pb1 [u1,(I x1.2.2.1),(I x1.2.2.2)],Ab (.slice (some ⟨b1,0,none⟩) 0 0) (([]:List Int):(List Int))]:=hb1 _ _ hq1
 refine Bj z z z<|Ae z z<|Ac<|be hF fun r1 hr2 hF=>Bd (fun l w=>∃x6:Int,∃x7:Int,∃v2:Value,∃x8:(List Int),(x6,x7,x8)=r1∧l=[(3,v2)]∧Ctx Fs.flatten w0 w [Af pb1 [u1,(I x6),(I x7)],Ab v2 (x8:(List Int))]) ?_ ?_
 ·refine AH<|wS (l':=[(0,(ptr pb1 0)),(3,(.slice (some ⟨b1,0,none⟩) 0 0)),(4,(I (w64 (1+x1.1))))]) ⟨z,z,z,Ai⟩<|Bu (fun k l w=>∃x2:Int,∃x3:Int,∃v1:Value,∃x4:(List Int),∃x5:Int,l=[(0,(ptr pb1 0)),(3,v1),(4,(I x5))]∧Ctx Fs.flatten w0 w [Af pb1 [u1,(I x2),(I x3)],Ab v1 (x4:(List Int))]∧S.l2Schema_l1 a1 k x2 x3 x4 x5=some r1) FUEL ⟨x1.2.2.1,x1.2.2.2,(.slice (some ⟨b1,0,none⟩) 0 0),([]:List Int),w64 (1+x1.1),z,hC6,hr2⟩<|?_
  clear hr2
  rintro k1 _ w3 ⟨x2,x3,v1,x4,x5,rfl,hC7,hL1⟩
  cases k1 with
  | zero=>rw [S.l2Schema_l1] at hL1; cases hL1
  | succ k1 =>
   rw [S.l2Schema_l1] at hL1
   refine A6<|Ad<|Ag z z<|C8 z z z<|Ac<|AI z (fun hc1=>?_) (fun hc1=>?_)
   ·replace hL1:=AC hL1 hc1
    refine AJ<|Am<|A6<|AH<|Ad<|Ag z z<|be hL1 fun x9 hr3 hL1=>?_
    obtain ⟨Fs2,hH2,hn2,hF2,hO2,hb2⟩:=AW (As:=[Ab v1 (x4:(List Int))]) [Af pb1 [u1,(I x2),(I x3)]] hC7
    refine A7 B2 z z (c_S_l1Below pb1 (a1.1,x2,x3) u1 (Bf g1 hC7.keep hF2) 2 hH2 hn2 x9 hr3) ?_
    rintro _ w4 ⟨rfl,hq2⟩
    have hC8:Ctx Fs.flatten w0 w4 [Af pb1 [u1,(I x9.2.2.1),(I x9.2.2.2)],Ab v1 (x4:(List Int))]:=hb2 _ _ hq2
    refine Bj z z z<|Ae z z<|Ac<|A6<|Ad<|Ag z z<|be hL1 fun x10 hr4 hL1=>?_
    obtain ⟨Fs3,hH3,hn3,hF3,hO3,hb3⟩:=AW (As:=[Ab v1 (x4:(List Int))]) [Af pb1 [u1,(I x9.2.2.1),(I x9.2.2.2)]] hC8
    refine A7 Cg z z (c_S_l1Once pb1 (a1.1,x9.2.2.1,x9.2.2.2) u1 (Bf g1 hC8.keep hF3) 4 hH3 hn3 x10 hr4) ?_
    rintro _ w5 ⟨rfl,hq3⟩
    have hC9:Ctx Fs.flatten w0 w5 [Af pb1 [u1,(I x10.2.2.1),(I x10.2.2.2)],Ab v1 (x4:(List Int))]:=hb3 _ _ hq3
    refine Ac<|be hL1 fun r2 hr5 hL1=>Bd (fun l w=>∃x11:Int,x11=r2∧l=[(0,(ptr pb1 0)),(3,v1),(4,(I x5)),(5,(I x11))]∧Below w5.heap.size w5 w∧Ctx Fs.flatten w0 w [Af pb1 [u1,(I x10.2.2.1),(I x10.2.2.2)],Ab v1 (x4:(List Int))]) ?_ ?_
    ·refine AI z (fun hc2=>?_) (fun hc2=>?_)
     ·replace hr5:=AC hr5 hc2
      refine Bb<|Ae z z<|Ac<|?_
      obtain rfl:=Aa hr5
      exact Ak (l':=[(0,(ptr pb1 0)),(3,v1),(4,(I x5)),(5,(I 3))]) ⟨z,z,z,z,Ai⟩<|⟨3,z,z,(Al _ _),hC9⟩
     replace hr5:=AD hr5 hc2
     refine AJ ?_
     obtain rfl:=Aa hr5
     exact Ak (l':=[(0,(ptr pb1 0)),(3,v1),(4,(I x5)),(5,(I (w64 (1+x9.1))))]) ⟨z,z,z,z,Ai⟩<|⟨w64 (1+x9.1),z,z,(Al _ _),hC9⟩
    rintro l2 _ w6 hs2 ⟨x11,rfl,rfl,hB3,hC10⟩
    try dsimp only at hL1
    refine AL hs2 ?_
    clear hs2
    refine Bb<|Ag z z<|Ag z z<|A2 (vs:=[(I x11)]) hC10 Ah ty3 z z z z (fac z<|fa0) z z fun b2 w7 hC11 hB4=>?_
    have hC12:=hC11.row0 (α:=Int)
    have hC13:=hC12.triv (Bm (x11))
    have hC14:=hC13.row1
    have hC15:=hC14.front 1 z
    dsimp only [List.eraseIdx,List.cons_append,List.nil_append,List.append_nil] at hC15
    have hC16:Ctx Fs.flatten w0 w7 (Ab (.slice (some ⟨b2,0,none⟩) 1 1) ([x11]:List Int)::[Af pb1 [u1,(I x10.2.2.1),(I x10.2.2.2)],Ab v1 (x4:(List Int))]):=hC15.rowOwn (by simp [maxLen])
    refine be hL1 fun x12 hx1 hL1=>Bi (α:=Int) hC16 2 z (hC16.ro 0 z) (Aq _ _) Ah ty3 z hx1 z z z fun v3 w9 hC17=>?_
    try dsimp only [List.set] at hC17
    exact Ae z z<|Ac<|AM<|Am<|Bb<|Ag z z<|BN z z z<|Ae z z<|Ac<|have hC18:=hC17.f2;have hC19:=hC18.f2;have hC20:=hC19.h2;Ak (l':=[(0,(ptr pb1 0)),(3,v3),(4,(I (w64 (x5 - 1))))]) ⟨z,z,z,Ai⟩<|⟨k1,Av _,x10.2.2.1,x10.2.2.2,v3,x12,w64 (x5 - 1),z,hC20,hL1⟩
   replace hL1:=AD hL1 hc1
   refine Bt (A1 (A1 (Be ?_)))
   obtain rfl:=Aa hL1
   exact Ak (l':=[(3,v1)]) ⟨z,Ai⟩<|⟨x2,x3,v1,x4,z,z,hC7⟩
 rintro l3 _ w10 hs3 ⟨x6,x7,v2,x8,rfl,rfl,hC21⟩
 try dsimp only at hF
 refine AL hs3 ?_
 clear hs3
 refine Ad<|Ag z z<|Ae z z<|Ac<|AP<|?_
 obtain rfl:=Aa hF
 exact A8 z z<|have hC22:=hC21.f1;⟨_,z,_,z,hC22⟩
theorem c_S_l1PickInt {w0:World} {Fs:List (List Nat)} (pb1:Nat) (a1:((List UInt8) × Int × Int)) (u1:Value) (g1:RO Fs.flatten w0 u1 a1.1) (a2:(List Int)) (u2:Value) (g2:RO Fs.flatten w0 u2 a2) (hH:Hold [Af pb1 [u1,(I a1.2.1),(I a1.2.2)]] w0 Fs) (hn:Fs.flatten.Nodup) (rr:(Int × ((List UInt8) × Int × Int))) (hF:S.l1PickInt a1 a2=some rr) :
 Calls Tryz.prog 154 [(ptr pb1 0),u2].toArray w0 fun e w'=>∃v,e=.returned v∧v=(I rr.1)∧Ctx Fs.flatten w0 w' [Af pb1 [u1,(I rr.2.2.1),(I rr.2.2.2)]]:=by
 refine Au Tryz.func154 z z ?_
 have hC0:=BD hH hn
 unfold S.l1PickInt at hF
 refine Ad<|Ae z z<|Ac<|Ad<|Ag z z<|Ag z z<|Ag z z<|AZ Ah g2 z z<|be hF fun x1 hr1 hF=>?_
 obtain ⟨Fs1,hH1,hn1,hF1,hO1,hb1⟩:=AW (As:=[]) [Af pb1 [u1,(I a1.2.1),(I a1.2.2)]] hC0
 refine A7 B2 z z (c_S_l1Below pb1 (a1.1,a1.2.1,a1.2.2) u1 (Bf g1 hC0.keep hF1) (List.length a2:Int) hH1 hn1 x1 hr1) ?_
 rintro _ w1 ⟨rfl,hq1⟩
 have hC1:Ctx Fs.flatten w0 w1 [Af pb1 [u1,(I x1.2.2.1),(I x1.2.2.2)]]:=hb1 _ _ hq1
 refine be hF fun x2 hx1 hF=>AG Ah ty3 g2 hx1 z z z fun b1 o1 h1=>A3 ty3 h1 hC1.keep z z fun v1 h2=>?_
 obtain rfl:=Bn h2
 refine Ae z z<|Ac<|AP<|?_
 obtain rfl:=Aa hF
 exact A8 z z<|⟨_,z,z,hC1⟩
theorem c_S_l5Method {w0:World} {Fs:List (List Nat)} (pb1:Nat) (a1:((List UInt8) × Int × Int)) (u1:Value) (g1:RO Fs.flatten w0 u1 a1.1) (a2:(List Int)) (u2:Value) (g2:RO Fs.flatten w0 u2 a2) (hH:Hold [Af pb1 [u1,(I a1.2.1),(I a1.2.2)]] w0 Fs) (hn:Fs.flatten.Nodup) (rr:((Int × (List Int) × Int × Int × Int) × ((List UInt8) × Int × Int))) (hF:S.l5Method a1 a2=some rr) :
 Calls Tryz.prog 153 [(ptr pb1 0),u2].toArray w0 fun e w'=>∃v,e=.returned v∧∃q0:Value,v=q0∧Ctx Fs.flatten w0 w' [Ab q0 (rr.1:(Int × (List Int) × Int × Int × Int)),Af pb1 [u1,(I rr.2.2.1),(I rr.2.2.2)]]:=by
 refine Au Tryz.func153 z z ?_
 have hC0:=BD hH hn
 unfold S.l5Method at hF
 refine Ad<|By hC0 zero71 z z fun b1 w1 hC1 hB1 hN1=>Ac<|Ad<|Ag z z<|Ag z z<|AZ Ah g2 z z<|be hF fun x1 hr1 hF=>have hC2:=hC1.f1;?_
 obtain ⟨Fs1,hH1,hn1,hF1,hO1,hb1⟩:=AW (As:=[Af b1 [(I 0),(.slice none 0 0),(I 0),(I 0),(I 0)]]) [Af pb1 [u1,(I a1.2.1),(I a1.2.2)]] hC2
 refine A7 B2 z z (c_S_l1Below pb1 (a1.1,a1.2.1,a1.2.2) u1 (Bf g1 hC2.keep hF1) (List.length a2:Int) hH1 hn1 x1 hr1) ?_
 rintro _ w2 ⟨rfl,hq1⟩
 have hC3:Ctx Fs.flatten w0 w2 [Af pb1 [u1,(I x1.2.2.1),(I x1.2.2.2)],Af b1 [(I 0),(.slice none 0 0),(I 0),(I 0),(I 0)]]:=hb1 _ _ hq1
 refine Ag z z<|A2 (vs:=[(I 0),(I 0),(I 0),(I 1),(I 2)]) hC3 Ah ty3 z z z z (fac z<|fac z<|fac z<|fac z<|fac z<|fa0) z z fun b2 w3 hC4 hB2=>?_
 have hC5:=hC4.row0 (α:=Int)
 have hC6:=hC5.triv (Bm (2))
 have hC7:=hC6.row1
 have hC8:=hC7.triv (Bm (1))
 have hC9:=hC8.row1
 have hC10:=hC9.triv (Bm (0))
 have hC11:=hC10.row1
 have hC12:=hC11.triv (Bm (0))
 have hC13:=hC12.row1
 have hC14:=hC13.triv (Bm (0))
 have hC15:=hC14.row1
 have hC16:=hC15.front 1 z
 dsimp only [List.eraseIdx,List.cons_append,List.nil_append,List.append_nil] at hC16
 have hC17:Ctx Fs.flatten w0 w3 (Ab (.slice (some ⟨b2,0,none⟩) 5 5) ([0,0,0,1,2]:List Int)::[Af pb1 [u1,(I x1.2.2.1),(I x1.2.2.2)],Af b1 [(I 0),(.slice none 0 0),(I 0),(I 0),(I 0)]]):=hC16.rowOwn (by simp [maxLen])
 refine be hF fun x2 hr2 hF=>have hC18:=hC17.f1;?_
 obtain ⟨Fs2,hH2,hn2,hF2,hO2,hb2⟩:=AW (As:=[Ab (.slice (some ⟨b2,0,none⟩) 5 5) ([0,0,0,1,2]:(List Int)),Af b1 [(I 0),(.slice none 0 0),(I 0),(I 0),(I 0)]]) [Af pb1 [u1,(I x1.2.2.1),(I x1.2.2.2)]] hC18
 refine A7 BG z z (c_S_l1PickInt pb1 (a1.1,x1.2.2.1,x1.2.2.2) u1 (Bf g1 hC18.keep hF2) ([0,0,0,1,2]) (.slice (some ⟨b2,0,none⟩) 5 5) (hO2 0 _ _ _ z) hH2 hn2 x2 hr2) ?_
 rintro _ w4 ⟨rfl,hq2⟩
 have hC19:Ctx Fs.flatten w0 w4 [Af pb1 [u1,(I x2.2.2.1),(I x2.2.2.2)],Ab (.slice (some ⟨b2,0,none⟩) 5 5) ([0,0,0,1,2]:(List Int)),Af b1 [(I 0),(.slice none 0 0),(I 0),(I 0),(I 0)]]:=hb2 _ _ hq2
 refine Ag z z<|be hF fun x3 hr3 hF=>?_
 obtain ⟨Fs3,hH3,hn3,hF3,hO3,hb3⟩:=AW (As:=[Ab (.slice (some ⟨b2,0,none⟩) 5 5) ([0,0,0,1,2]:(List Int)),Af b1 [(I 0),(.slice none 0 0),(I 0),(I 0),(I 0)]]) [Af pb1 [u1,(I x2.2.2.1),(I x2.2.2.2)]] hC19
 refine A7 B2 z z (c_S_l1Below pb1 (a1.1,x2.2.2.1,x2.2.2.2) u1 (Bf g1 hC19.keep hF3) 5 hH3 hn3 x3 hr3) ?_
 rintro _ w5 ⟨rfl,hq3⟩
 have hC20:Ctx Fs.flatten w0 w5 [Af pb1 [u1,(I x3.2.2.1),(I x3.2.2.2)],Ab (.slice (some ⟨b2,0,none⟩) 5 5) ([0,0,0,1,2]:(List Int)),Af b1 [(I 0),(.slice none 0 0),(I 0),(I 0),(I 0)]]:=hb3 _ _ hq3
 refine Ag z z<|be hF fun x4 hr4 hF=>?_
 obtain ⟨Fs4,hH4,hn4,hF4,hO4,hb4⟩:=AW (As:=[Ab (.slice (some ⟨b2,0,none⟩) 5 5) ([0,0,0,1,2]:(List Int)),Af b1 [(I 0),(.slice none 0 0),(I 0),(I 0),(I 0)]]) [Af pb1 [u1,(I x3.2.2.1),(I x3.2.2.2)]] hC20
 refine A7 B2 z z (c_S_l1Below pb1 (a1.1,x3.2.2.1,x3.2.2.2) u1 (Bf g1 hC20.keep hF4) 6 hH4 hn4 x4 hr4) ?_
 rintro _ w6 ⟨rfl,hq4⟩
 have hC21:Ctx Fs.flatten w0 w6 [Af pb1 [u1,(I x4.2.2.1),(I x4.2.2.2)],Ab (.slice (some ⟨b2,0,none⟩) 5 5) ([0,0,0,1,2]:(List Int)),Af b1 [(I 0),(.slice none 0 0),(I 0),(I 0),(I 0)]]:=hb4 _ _ hq4
 refine Bj z z z<|Ck (vs:=[(0,(I x1.1)),(2,(I x2.1)),(3,(I x3.1)),(4,(I (w64 (1+x4.1))))]) z z z (built71_0_2_3_4 z z z z)<|By hC21 zero71 z z fun b3 w7 hC22 hB3 hN2=>AO (cs':=[(I x1.1),(.slice none 0 0),(I x2.1),(I x3.1),(I (w64 (1+x4.1)))]) (new:=[(I x1.1),(.slice none 0 0),(I x2.1),(I x3.1),(I (w64 (1+x4.1)))]) hC22 0 z z (fac z<|fac z<|fac z<|fac z<|fac z<|fa0) z B8 z z fun w9 hC23 hKp1=>?_
 try dsimp only [List.set] at hC23
 have hk1:=AY (Ap hB3) hN2 hKp1
 refine Ac<|A6<|Ad<|Ae z z<|Ac<|be hF fun r1 hr5 hF=>Bd (fun l w=>∃x13:Int,∃v2:Value,∃x14:(List Int),∃x15:Int,∃x16:Int,∃x17:Int,∃x18:Int,∃x19:Int,(x13,x14,x15,x16,x17,x18,x19)=r1∧l=[(4,(ptr b1 0)),(5,(ptr b3 0))]∧Ctx Fs.flatten w0 w [Ab v2 (x14:(List Int)),Af b3 [(I x13),v2,(I x15),(I x16),(I x17)],Af pb1 [u1,(I x18),(I x19)],Af b1 [(I 0),(.slice none 0 0),(I 0),(I 0),(I 0)]]) ?_ ?_
 ·refine AH ?_
  have hC45:=hC23.triv (nil_val (α:=Int))
  have hC46:=hC45.f4
  have hC47:=hC46.f3
  have hC48:=hC47.f3
  have hC49:=hC48.f3
  have hC50:=hC49.h4
  refine wS (l':=[(0,(ptr pb1 0)),(1,u2),(4,(ptr b1 0)),(5,(ptr b3 0)),(6,(I 0))]) ⟨z,z,z,z,z,Ai⟩<|Bu (fun k l w=>∃x5:Int,∃v1:Value,∃x6:(List Int),∃x7:Int,∃x8:Int,∃x9:Int,∃x10:Int,∃x11:Int,∃x12:Int,l=[(0,(ptr pb1 0)),(1,u2),(4,(ptr b1 0)),(5,(ptr b3 0)),(6,(I x12))]∧Ctx Fs.flatten w0 w [Ab v1 (x6:(List Int)),Af b3 [(I x5),v1,(I x7),(I x8),(I x9)],Af pb1 [u1,(I x10),(I x11)],Af b1 [(I 0),(.slice none 0 0),(I 0),(I 0),(I 0)]]∧S.l5Method_l1 a2 a1 k x5 x6 x7 x8 x9 x10 x11 x12=some r1) FUEL ⟨x1.1,(.slice none 0 0),[],x2.1,x3.1,w64 (1+x4.1),x4.2.2.1,x4.2.2.2,0,z,hC50,hr5⟩<|?_
  clear hr5
  rintro k1 _ w10 ⟨x5,v1,x6,x7,x8,x9,x10,x11,x12,rfl,hC24,hL1⟩
  cases k1 with
  | zero=>rw [S.l5Method_l1] at hL1; cases hL1
  | succ k1 =>
   rw [S.l5Method_l1] at hL1
   refine A6<|Ad<|Ag z z<|Ag z z<|fd AN AE z z z z<|Ao hC24 1 z z Bl z z<|be hL1 fun x20 hx1 hL1=>AG Ah ty3 g2 hx1 z z z fun b4 o1 h1=>A3 ty3 h1 hC24.keep z z fun v3 h2=>?_
   obtain rfl:=Bn h2
   refine Bo z z z<|Ac<|AI z (fun hc1=>?_) (fun hc1=>?_)
   ·replace hL1:=AC hL1 hc1
    refine AJ<|Am<|A6<|AH<|Ad<|Ag z z<|be hL1 fun x21 hr6 hL1=>have hC25:=hC24.f2;?_
    obtain ⟨Fs5,hH5,hn5,hF5,hO5,hb5⟩:=AW (As:=[Ab v1 (x6:(List Int)),Af b3 [(I x5),v1,(I x7),(I x8),(I x9)],Af b1 [(I 0),(.slice none 0 0),(I 0),(I 0),(I 0)]]) [Af pb1 [u1,(I x10),(I x11)]] hC25
    refine A7 Cg z z (c_S_l1Once pb1 (a1.1,x10,x11) u1 (Bf g1 hC25.keep hF5) 3 hH5 hn5 x21 hr6) ?_
    rintro _ w11 ⟨rfl,hq5⟩
    have hC26:Ctx Fs.flatten w0 w11 [Af pb1 [u1,(I x21.2.2.1),(I x21.2.2.2)],Ab v1 (x6:(List Int)),Af b3 [(I x5),v1,(I x7),(I x8),(I x9)],Af b1 [(I 0),(.slice none 0 0),(I 0),(I 0),(I 0)]]:=hb5 _ _ hq5
    refine Ac<|be hL1 fun r2 hr7 hL1=>Bd (fun l w=>∃x22:Int,∃v4:Value,∃x23:(List Int),∃x24:Int,∃x25:Int,∃x26:Int,(x22,x23,x24,x25,x26)=r2∧l=[(0,(ptr pb1 0)),(1,u2),(4,(ptr b1 0)),(5,(ptr b3 0)),(6,(I x12))]∧Ctx Fs.flatten w0 w [Af pb1 [u1,(I x21.2.2.1),(I x21.2.2.2)],Ab v4 (x23:(List Int)),Af b3 [(I x22),v4,(I x24),(I x25),(I x26)],Af b1 [(I 0),(.slice none 0 0),(I 0),(I 0),(I 0)]]) ?_ ?_
    ·refine AI z (fun hc2=>?_) (fun hc2=>?_)
     ·replace hr7:=AC hr7 hc2
      refine Bb<|fd AN Aw z z z z<|Ao hC26 2 z z AQ z z<|Ag z z<|A2 (vs:=[(I x12)]) hC26 Ah ty3 z z z z (fac z<|fa0) z z fun b5 w13 hC28 hB6=>?_
      have hC29:=hC28.row0 (α:=Int)
      have hC30:=hC29.triv (Bm (x12))
      have hC31:=hC30.row1
      have hC32:=hC31.front 1 z
      dsimp only [List.eraseIdx,List.cons_append,List.nil_append,List.append_nil] at hC32
      have hC33:Ctx Fs.flatten w0 w13 (Ab (.slice (some ⟨b5,0,none⟩) 1 1) ([x12]:List Int)::[Af pb1 [u1,(I x21.2.2.1),(I x21.2.2.2)],Ab v1 (x6:(List Int)),Af b3 [(I x5),v1,(I x7),(I x8),(I x9)],Af b1 [(I 0),(.slice none 0 0),(I 0),(I 0),(I 0)]]):=hC32.rowOwn (by simp [maxLen])
      refine be hr7 fun x27 hx2 hr7=>Bi (α:=Int) hC33 2 z (hC33.ro 0 z) (Aq _ _) Ah ty3 z hx2 z z z fun v5 w14 hC34=>?_
      try dsimp only [List.set] at hC34
      refine fd AN Aw z z z z<|B3 (cs':=[(I x5),v5,(I x7),(I x8),(I x9)]) hC34 3 z z (Bz (hC34.ro 2 z)) z Aw z z fun w15 hC35 hKp2=>?_
      try dsimp only [List.set] at hC35
      refine Ac ?_
      obtain rfl:=Aa hr7
      have hC36:=hC35.f4
      have hC37:=hC36.f4
      have hC38:=hC37.f4
      have hC39:=hC38.f4
      have hC40:=hC39.h4
      exact Ak (l':=[(0,(ptr pb1 0)),(1,u2),(4,(ptr b1 0)),(5,(ptr b3 0)),(6,(I x12))]) ⟨z,z,z,z,z,Ai⟩<|⟨x5,v5,x27,x7,x8,x9,z,z,hC40⟩
     replace hr7:=AD hr7 hc2
     refine AJ ?_
     obtain rfl:=Aa hr7
     exact Ak (l':=[(0,(ptr pb1 0)),(1,u2),(4,(ptr b1 0)),(5,(ptr b3 0)),(6,(I x12))]) ⟨z,z,z,z,z,Ai⟩<|⟨x5,v1,x6,x7,x8,x9,z,z,hC26⟩
    rintro l2 _ w12 hs2 ⟨x22,v4,x23,x24,x25,x26,rfl,rfl,hC27⟩
    try dsimp only at hL1
    refine AM<|AL hs2<|?_
    clear hs2
    exact Bb<|Ag z z<|Bj z z z<|Ae z z<|Ac<|have hC41:=hC27.f3;have hC42:=hC41.f1;have hC43:=hC42.f3;have hC44:=hC43.f3;Ak (l':=[(0,(ptr pb1 0)),(1,u2),(4,(ptr b1 0)),(5,(ptr b3 0)),(6,(I (w64 (x12+1))))]) ⟨z,z,z,z,z,Ai⟩<|⟨k1,Av _,x22,v4,x23,x24,x25,x26,x21.2.2.1,x21.2.2.2,w64 (x12+1),z,hC44,hL1⟩
   replace hL1:=AD hL1 hc1
   refine Bt (A1 (A1 (Be ?_)))
   obtain rfl:=Aa hL1
   exact Ak (l':=[(4,(ptr b1 0)),(5,(ptr b3 0))]) ⟨z,z,Ai⟩<|⟨x5,v1,x6,x7,x8,x9,x10,x11,z,z,hC24⟩
 rintro l3 _ w16 hs3 ⟨x13,v2,x14,x15,x16,x17,x18,x19,rfl,rfl,hC51⟩
 try dsimp only at hF
 refine AL hs3 ?_
 clear hs3
 refine Ad<|A9 [(I x13),v2,(I x15),(I x16),(I x17)] hC51 1 z z z BU B8 z z<|AO (cs':=[(I x13),v2,(I x15),(I x16),(I x17)]) (new:=[(I x13),v2,(I x15),(I x16),(I x17)]) hC51 3 z z (fac z<|fac (Bz (hC51.ro 0 z))<|fac z<|fac z<|fac z<|fa0) z B8 z z fun w17 hC52 hKp3=>?_
 try dsimp only [List.set] at hC52
 refine Ac (AP ?_)
 obtain rfl:=Aa hF
 refine fn_retG1 z (rv_cell_agg (cs':=[(I x13),v2,(I x15),(I x16),(I x17)]) hC52 (i:=3) z z z BU B8 z)<|have hC53:=hC52.f2;have hC55:=hC53.f1;?_
 have hC54:=own_st71 x13 v2 x14 x15 x16 x17 hC55
 have hC56:=hC54.h2
 exact ⟨_,z,_,z,hC56⟩
theorem c_S_l5Methods {w0:World} {Fs:List (List Nat)} (pb1:Nat) (a1:((List UInt8) × Int × Int)) (u1:Value) (g1:RO Fs.flatten w0 u1 a1.1) (a2:(List Int)) (u2:Value) (g2:RO Fs.flatten w0 u2 a2) (hH:Hold [Af pb1 [u1,(I a1.2.1),(I a1.2.2)]] w0 Fs) (hn:Fs.flatten.Nodup) (rr:((List (Int × (List Int) × Int × Int × Int)) × ((List UInt8) × Int × Int))) (hF:S.l5Methods a1 a2=some rr) :
 Calls Tryz.prog 127 [(ptr pb1 0),u2].toArray w0 fun e w'=>∃v,e=.returned v∧∃q0:Value,v=q0∧Ctx Fs.flatten w0 w' [Ab q0 (rr.1:(List (Int × (List Int) × Int × Int × Int))),Af pb1 [u1,(I rr.2.2.1),(I rr.2.2.2)]]:=by
 refine Au Tryz.func127 z z ?_
 have hC0:=BD hH hn
 unfold S.l5Methods at hF
 refine Ad<|Ae z z<|Ac<|Ad<|A2 (vs:=[]) hC0 Bc ty71 z z z z (by simp) z z fun b1 w1 hC1 hB1=>?_
 have hC2:=hC1.row0 (α:=(Int × (List Int) × Int × Int × Int))
 have hC3:=hC2.front 1 z
 dsimp only [List.eraseIdx,List.cons_append,List.nil_append,List.append_nil] at hC3
 have hC4:Ctx Fs.flatten w0 w1 (Ab (.slice (some ⟨b1,0,none⟩) 0 0) (([]:List (Int × (List Int) × Int × Int × Int)):List (Int × (List Int) × Int × Int × Int))::[Af pb1 [u1,(I a1.2.1),(I a1.2.2)]]):=hC3.rowOwn (by simp [maxLen])
 refine Ae z z<|Ac<|A6<|Ad<|Ag z z<|be hF fun x1 hr1 hF=>have hC5:=hC4.f1;?_
 obtain ⟨Fs1,hH1,hn1,hF1,hO1,hb1⟩:=AW (As:=[Ab (.slice (some ⟨b1,0,none⟩) 0 0) (([]:List (Int × (List Int) × Int × Int × Int)):(List (Int × (List Int) × Int × Int × Int)))]) [Af pb1 [u1,(I a1.2.1),(I a1.2.2)]] hC5
 refine A7 B2 z z (c_S_l1Below pb1 (a1.1,a1.2.1,a1.2.2) u1 (Bf g1 hC5.keep hF1) 4 hH1 hn1 x1 hr1) ?_
 rintro _ w2 ⟨rfl,hq1⟩
 have hC6:Ctx Fs.flatten w0 w2 [Af pb1 [u1,(I x1.2.2.1),(I x1.2.2.2)],Ab (.slice (some ⟨b1,0,none⟩) 0 0) (([]:List (Int × (List Int) × Int × Int × Int)):(List (Int × (List Int) × Int × Int × Int)))]:=hb1 _ _ hq1
 refine Bj z z z<|Ae z z<|Ac<|be hF fun r1 hr2 hF=>Bd (fun l w=>∃x6:Int,∃x7:Int,∃v2:Value,∃x8:(List (Int × (List Int) × Int × Int × Int)),(x6,x7,x8)=r1∧l=[(5,v2)]∧Ctx Fs.flatten w0 w [Af pb1 [u1,(I x6),(I x7)],Ab v2 (x8:(List (Int × (List Int) × Int × Int × Int)))]) ?_ ?_
 ·refine AH<|wS (l':=[(0,(ptr pb1 0)),(1,u2),(5,(.slice (some ⟨b1,0,none⟩) 0 0)),(6,(I (w64 (1+x1.1))))]) ⟨z,z,z,z,Ai⟩<|Bu (fun k l w=>∃x2:Int,∃x3:Int,∃v1:Value,∃x4:(List (Int × (List Int) × Int × Int × Int)),∃x5:Int,l=[(0,(ptr pb1 0)),(1,u2),(5,v1),(6,(I x5))]∧Ctx Fs.flatten w0 w [Af pb1 [u1,(I x2),(I x3)],Ab v1 (x4:(List (Int × (List Int) × Int × Int × Int)))]∧S.l5Methods_l1 a1 a2 k x2 x3 x4 x5=some r1) FUEL ⟨x1.2.2.1,x1.2.2.2,(.slice (some ⟨b1,0,none⟩) 0 0),([]:List (Int × (List Int) × Int × Int × Int)),w64 (1+x1.1),z,hC6,hr2⟩<|?_
  clear hr2
  rintro k1 _ w3 ⟨x2,x3,v1,x4,x5,rfl,hC7,hL1⟩
  cases k1 with
  | zero=>rw [S.l5Methods_l1] at hL1; cases hL1
  | succ k1 =>
   rw [S.l5Methods_l1] at hL1
   refine A6<|Ad<|Ag z z<|C8 z z z<|Ac<|AI z (fun hc1=>?_) (fun hc1=>?_)
   ·replace hL1:=AC hL1 hc1
    refine AJ<|Am<|A6<|AH<|Ad<|Ag z z<|Ag z z<|be hL1 fun x9 hr3 hL1=>?_
    obtain ⟨Fs2,hH2,hn2,hF2,hO2,hb2⟩:=AW (As:=[Ab v1 (x4:(List (Int × (List Int) × Int × Int × Int)))]) [Af pb1 [u1,(I x2),(I x3)]] hC7
    refine A7 Tryz.call153 z z (c_S_l5Method pb1 (a1.1,x2,x3) u1 (Bf g1 hC7.keep hF2) a2 u2 (Bf g2 hC7.keep hF2) hH2 hn2 x9 hr3) ?_
    rintro v3 w4 ⟨_,rfl,hq2⟩
    have hC8:Ctx Fs.flatten w0 w4 [Ab v3 (x9.1:(Int × (List Int) × Int × Int × Int)),Af pb1 [u1,(I x9.2.2.1),(I x9.2.2.2)],Ab v1 (x4:(List (Int × (List Int) × Int × Int × Int)))]:=hb2 _ _ hq2
    obtain ⟨v4,rfl,hC9⟩:=st71_own hC8
    refine By hC9 zero71 z z fun b2 w5 hC10 hB3 hN1=>AO (cs':=[(I x9.1.1),v4,(I x9.1.2.2.1),(I x9.1.2.2.2.1),(I x9.1.2.2.2.2)]) (new:=[(I x9.1.1),v4,(I x9.1.2.2.1),(I x9.1.2.2.2.1),(I x9.1.2.2.2.2)]) hC10 0 z z (fac z<|fac (Bz (hC10.ro 1 z))<|fac z<|fac z<|fac z<|fa0) z B8 z z fun w6 hC11 hKp1=>?_
    try dsimp only [List.set] at hC11
    have hk1:=AY (Ap hB3) hN1 hKp1
    refine Ac<|Bb<|Ag z z<|A9 [(I x9.1.1),v4,(I x9.1.2.2.1),(I x9.1.2.2.2.1),(I x9.1.2.2.2.2)] hC11 0 z z z BU B8 z z<|A2 (vs:=[(.agg #[(I x9.1.1),v4,(I x9.1.2.2.1),(I x9.1.2.2.2.1),(I x9.1.2.2.2.2)])]) hC11 Bc ty71 z z z z (fac z<|fa0) z z fun b3 w7 hC12 hB4=>?_
    have hC13:=hC12.row0 (α:=(Int × (List Int) × Int × Int × Int))
    have hC15:=hC13.f3
    have hC14:=own_st71 x9.1.1 v4 x9.1.2.1 x9.1.2.2.1 x9.1.2.2.2.1 x9.1.2.2.2.2 hC15
    have hC16:=hC14.row1
    have hC17:=hC16.front 1 z
    dsimp only [List.eraseIdx,List.cons_append,List.nil_append,List.append_nil] at hC17
    have hC18:Ctx Fs.flatten w0 w7 (Ab (.slice (some ⟨b3,0,none⟩) 1 1) ([(x9.1.1,x9.1.2.1,x9.1.2.2.1,x9.1.2.2.2.1,x9.1.2.2.2.2)]:List (Int × (List Int) × Int × Int × Int))::[Af b2 [(I x9.1.1),v4,(I x9.1.2.2.1),(I x9.1.2.2.2.1),(I x9.1.2.2.2.2)],Af pb1 [u1,(I x9.2.2.1),(I x9.2.2.2)],Ab v1 (x4:(List (Int × (List Int) × Int × Int × Int)))]):=hC17.rowOwn (by simp [maxLen])
    refine be hL1 fun x10 hx1 hL1=>CF hC18 2 z Bc ty71 z hx1 z z z fun v5 w9 hC19=>?_
    try dsimp only [List.set] at hC19
    exact Ae z z<|Ac<|AM<|Am<|Bb<|Ag z z<|BN z z z<|Ae z z<|Ac<|have hC21:=hC19.f2;have hC22:=hC21.f2;have hC23:=hC22.h2;Ak (l':=[(0,(ptr pb1 0)),(1,u2),(5,v5),(6,(I (w64 (x5 - 1))))]) ⟨z,z,z,z,Ai⟩<|⟨k1,Av _,x9.2.2.1,x9.2.2.2,v5,x10,w64 (x5 - 1),z,hC23,hL1⟩
   replace hL1:=AD hL1 hc1
   refine Bt (A1 (A1 (Be ?_)))
   obtain rfl:=Aa hL1
   exact Ak (l':=[(5,v1)]) ⟨z,Ai⟩<|⟨x2,x3,v1,x4,z,z,hC7⟩
 rintro l2 _ w10 hs2 ⟨x6,x7,v2,x8,rfl,rfl,hC24⟩
 try dsimp only at hF
 refine AL hs2 ?_
 clear hs2
 refine Ad<|Ag z z<|Ae z z<|Ac<|AP<|?_
 obtain rfl:=Aa hF
 exact A8 z z<|have hC25:=hC24.f1;⟨_,z,_,z,hC25⟩
end Go.Gx.Px
