/- The contracts of the Go functions against the pure functions, printed by program. Conditions: each says them. -/
import Derived.Test.YtngpabaocflipaaGreatC5
set_option linter.unusedVariables false
set_option linter.unusedSimpArgs false
set_option maxRecDepth 100000
set_option maxHeartbeats 4000000
namespace Go.Gx.Px
open Go.Proofs Go.RowKit
open K9
theorem c_Slices_DeleteFunc_Limpl_Fact_impl_Fact_M_BrokenRules_c1 {Fs:List (List Nat)} {w0:World} (a1:(List (Int × (List Int)))) (u1:Value) (pb1:Nat) (ax1:(List ((Int × (List Int)) × (List (Int × (List Int)))))) (g1:ROAt Fs.flatten w0 pb1 0 ax1) (pb2:Nat) (ax2:(List (Int × (List Int) × Int × Int × Int))) (g2:ROAt Fs.flatten w0 pb2 0 ax2) (hH:Hold [Af u1 (a1:(List (Int × (List Int))))] w0 Fs) (hn:Fs.flatten.Nodup) (rr:(List (Int × (List Int)))) (hF:Slices.DeleteFunc_Limpl_Fact_impl_Fact_M_BrokenRules_c1 a1 ax1 ax2=some rr) :
 Calls Tryz.prog 84 [u1,(.func (.func 86) #[] #[(ptr pb1 0),(ptr pb2 0)])].toArray w0 fun e w'=>∃v,e=.returned v∧∃q0:Value,v=q0∧Ctx Fs.flatten w0 w' [Af q0 (rr:(List (Int × (List Int))))]:=by
 refine Ax Tryz.func84 z z ?_
 have hC0:=BE hH hn
 unfold Slices.DeleteFunc_Limpl_Fact_impl_Fact_M_BrokenRules_c1 at hF
 refine be hF fun x hx hF=>Ac<|Ad z z<|Ab<|Ac<|Ae z z<|Ae z z<|ci Ck z z (c_Slices_IndexFunc_Limpl_Fact_impl_Fact_M_BrokenRules_c1 a1 u1 (hC0.ro 0 z) pb1 ax1 (g1.now (A1 _ _)) pb2 ax2 (g2.now (A1 _ _)) x hx) fun w1 hB1=>have hC1:=hC0.grow hB1;Ad z z<|Ab<|A6<|Ac<|Ae z z<|BM z z z<|?_
 by_cases hx1:x=-1
 ·rw [if_pos hx1] at hF
  obtain rfl:=Aa hF
  rw [decide_eq_true hx1]
  exact Ab<|C0 z<|Ac<|Ae z z<|Ad z z<|Ab<|AL<|Av<|A2 z z<|⟨_,z,_,z,hC1⟩
 rw [if_neg hx1] at hF
 have hr:0 ≤ x∧x < (a1.length:Int):=Classical.byContradiction fun h=>by rw [if_neg h] at hF; cases hF
 rw [if_pos hr] at hF
 obtain ⟨m,rfl⟩:∃m:Nat,x=m:=⟨x.toNat,by omega⟩
 have hm:m < a1.length:=by omega
 have hlim:=(hC0.ro 0 z).lt
 simp only [maxLen] at hlim
 rw [Int.toNat_natCast] at hF
 rw [decide_eq_false hx1]
 refine Ab<|C1 z<|AF<|Ap<|A6<|Ac<|Ae z z<|Bn z z z<|?_
 rw [show w64 ((m:Int)+1)=((m+1:Nat):Int) by rw [w64_id (by omega) (by omega)]; omega]
 refine Ad z z<|Ab<|?_
 obtain ⟨b,c,rfl,hc1,hc2,hD0⟩:=hC1.del_open hm
 have hml:(a1.take m).length=m:=by rw [List.length_take]; omega
 refine Bi (fun l w=>∃kept:List (Int × (List Int)),∃g:Nat,l=[(0,.slice (some ⟨b,0,none⟩) a1.length c),(5,.int .i64 (kept.length:Int))]∧0 < g∧kept.length+g=a1.length∧kept=rr∧Ctx Fs.flatten w0 w [Item.del b c kept g ([]:List (Int × (List Int)))]) ?_ ?_
 ·refine AJ<|wS (l':=[(0,.slice (some ⟨b,0,none⟩) a1.length c),(1,(.func (.func 86) #[] #[(ptr pb1 0),(ptr pb2 0)])),(5,.int .i64 (m:Int)),(6,.int .i64 ((m+1:Nat):Int))]) ⟨z,z,z,z,Aj⟩<|B2 (fun k l w=>∃kept:List (Int × (List Int)),∃g:Nat,∃rest:List (Int × (List Int)),l=[(0,.slice (some ⟨b,0,none⟩) a1.length c),(1,(.func (.func 86) #[] #[(ptr pb1 0),(ptr pb2 0)])),(5,.int .i64 (kept.length:Int)),(6,.int .i64 ((kept.length+g:Nat):Int))]∧0 < g∧kept.length+g+rest.length=a1.length∧dfl (fun e=>M.BrokenRules_c1 e ax1 ax2) kept rest=some rr∧k=rest.length∧Ctx Fs.flatten w0 w [Item.del b c kept g rest]) (a1.drop (m+1)).length ⟨a1.take m,1,a1.drop (m+1),by rw [hml],by omega,by rw [hml,List.length_drop]; omega,hF,z,hD0⟩<|?_
  clear hF hD0
  rintro k1 _ w2 ⟨kept,g,rest,rfl,hg,hlen,hL,hk,hD⟩
  refine A6<|Ac<|Ae z z<|Ae z z<|WL_len_raw Ai z z<|Bv z z z<|?_
  cases rest with
  | nil =>
   have hq:=Aa hL
   simp only [List.length_nil,Nat.add_zero] at hlen
   rw [decide_eq_false (show ¬ ((kept.length+g:Nat):Int) < (a1.length:Int) by omega)]
   exact Ab<|C1 z<|B1<|A9<|A9<|Bk<|Am (l':=[(0,.slice (some ⟨b,0,none⟩) a1.length c),(5,.int .i64 (kept.length:Int))]) ⟨z,z,Aj⟩<|⟨kept,g,z,hg,hlen,hq,hD⟩
  | cons x rest =>
   simp only [List.length_cons] at hlen hk
   rw [decide_eq_true (show ((kept.length+g:Nat):Int) < (a1.length:Int) by omega)]
   refine Ab<|C0 z<|AF<|Ap<|A6<|AJ<|Ac<|Ae z z<|Ae z z<|CO Ai ty88 (show kept.length+g < a1.length by omega) z z z<|?_
   obtain ⟨cs,hcs,hD1⟩:=hD.del_head
   obtain ⟨hro,row,T,hh,hrow⟩:=hD1.delh_row
   refine WL_load_raw ty88 hh (by rw [Nat.zero_add]; exact hrow) hcs z z ?_
   obtain ⟨e1,hce,_⟩:=BD hro
   obtain rfl:=cells_of_agg (cs':=[(I x.1),e1]) hce
   rw [show mkv (Rep.agg (Int × (List Int))) [(I x.1),e1]=(.agg #[(I x.1),e1]) from z]
   refine WL_alloc hD1 zero88 z z (fun b7 w3 hD2 hB2=>?_)
   have phr:=hD2.delh_ro (α:=(Int × (List Int))) 1 z
   obtain ⟨pf0,phe,pg0⟩:=BD phr
   replace phe:=cells_of_agg (cs:=[(I x.1),e1]) (cs':=[(I x.1),pf0]) phe
   simp only [List.cons.injEq,and_true,true_and] at phe
   obtain rfl:=phe
   refine WL_store_box_agg (cs':=[(I x.1),e1]) (new:=[(I x.1),e1]) hD2 0 z z (fac z<|fac (B0 pg0)<|fa0) z AP z z (fun w4 hD3=>?_)
   try dsimp only [List.set] at hD3
   refine Ab<|Ac<|Ae z z<|Au [(I x.1),e1] hD3 0 z z z Bl AP z z<|?_
   have qhr:=hD3.delh_ro (α:=(Int × (List Int))) 1 z
   obtain ⟨qf0,qhe,qg0⟩:=BD qhr
   replace qhe:=cells_of_agg (cs:=[(I x.1),e1]) (cs':=[(I x.1),qf0]) qhe
   simp only [List.cons.injEq,and_true,true_and] at qhe
   obtain rfl:=qhe
   obtain ⟨q,hq,hL⟩:=CD (show (M.BrokenRules_c1 x ax1 ax2).bind (fun b=>dfl (fun e=>M.BrokenRules_c1 e ax1 ax2) (if b then kept else kept ++ [x]) rest)=some rr from hL)
   refine BT (cap:=[(ptr pb1 0),(ptr pb2 0)]) Tryz.call86 z z z (c_M_BrokenRules_c1 x e1 qg0 pb1 ax1 (g1.now hD3.keep) pb2 ax2 (g2.now hD3.keep) q hq) ?_
   intro _ w5 hv2
   obtain ⟨rfl,hB5⟩:=BU hv2
   have hD4:=hD3.grow hB5
   refine B3 z z<|Ab<|AE z (fun hq1=>?_) (fun hq1=>?_)
   ·have hqf:q=false:=by simpa using hq1
    rw [hqf] at hL
    rw [if_neg (by simp)] at hL
    refine Ac<|Ae z z<|Ae z z<|Au [(I x.1),e1] hD4 0 z z z Bl AP z z<|CO Ai ty88 (show kept.length < a1.length by omega) z z z<|WL_store_del hD4.swap hg ty88 z z z fun w6 hD5=>Ab<|Bg<|Ae z z<|Bn z z z<|?_
    rw [show w64 ((kept.length:Int)+1)=((kept ++ [x]).length:Int) by rw [w64_id (by omega) (by omega),List.length_append]; rfl]
    refine Ad z z<|Ab<|AU<|Ap<|Bg<|Ae z z<|Bn z z z<|?_
    rw [show w64 (((kept.length+g:Nat):Int)+1)=(((kept ++ [x]).length+g:Nat):Int) by rw [w64_id (by omega) (by omega),List.length_append]; simp only [List.length_cons,List.length_nil]; omega]
    exact Ad z z<|Ab<|Am (l':=[(0,.slice (some ⟨b,0,none⟩) a1.length c),(1,(.func (.func 86) #[] #[(ptr pb1 0),(ptr pb2 0)])),(5,.int .i64 ((kept ++ [x]).length:Int)),(6,.int .i64 (((kept ++ [x]).length+g:Nat):Int))]) ⟨z,z,z,z,Aj⟩<|⟨rest.length,by omega,kept ++ [x],g,rest,z,hg,by rw [List.length_append]; simp only [List.length_cons,List.length_nil]; omega,hL,z,hD5.headN 1⟩
   have hqt:q=true:=by simpa using hq1
   rw [hqt] at hL
   rw [if_pos z] at hL
   refine AF<|AU<|Ap<|Bg<|Ae z z<|Bn z z z<|?_
   rw [show w64 (((kept.length+g:Nat):Int)+1)=((kept.length+(g+1):Nat):Int) by rw [w64_id (by omega) (by omega)]; omega]
   refine Ad z z<|Ab<|Am (l':=[(0,.slice (some ⟨b,0,none⟩) a1.length c),(1,(.func (.func 86) #[] #[(ptr pb1 0),(ptr pb2 0)])),(5,.int .i64 (kept.length:Int)),(6,.int .i64 ((kept.length+(g+1):Nat):Int))]) ⟨z,z,z,z,Aj⟩<|?_
   have hD5:=(hD4.swap.headN 1).del_skip
   exact ⟨rest.length,by omega,kept,g+1,rest,z,by omega,by omega,hL,z,hD5⟩
 rintro l2 _ w8 hs2 ⟨kept,g,rfl,hg,hlen,rfl,hD⟩
 refine AY hs2 ?_
 clear hs2
 exact Ac<|Ae z z<|Ae z z<|C6 Ai ty88 (show kept.length < c by omega) (show kept.length ≤ a1.length by omega) hc1 z z z<|WL_clear_del hD Ai ty88 zc88 (fac z<|fac z<|fa0) hlen.symm z hg fun w9 hD9=>Ab<|Ac<|Ae z z<|Ae z z<|WL_sl_h Ai ty88 (hi:=kept.length) (by omega) (by omega) z z z<|Ad z z<|Ab<|AL<|A2 z z<|⟨_,z,_,z,hD9⟩
theorem c_M_BrokenRules {w0:World} (a1:(List Int)) (u1:Value) (g1:RO [] w0 u1 a1) (a2:(List (Int × (List Int) × Int × Int × Int))) (u2:Value) (g2:RO [] w0 u2 a2) (a3:(List (Int × Int × (List Int)))) (u3:Value) (g3:RO [] w0 u3 a3) (a4:(List ((Int × (List Int)) × (List (Int × (List Int)))))) (u4:Value) (g4:RO [] w0 u4 a4) (rr:(List (Int × (List Int)))) (hF:M.BrokenRules a1 a2 a3 a4=some rr) :
 Calls Tryz.prog 23 [u1,u2,u3,u4].toArray w0 fun e w'=>∃v,e=.returned v∧Res w0 rr v w':=by
 refine Ax Tryz.func23 z z ?_
 have hC0:=A5 w0
 unfold M.BrokenRules at hF
 refine Ac<|Br (cs:=[u2]) hC0 (B7 g2) z z fun b1 w1 hC1 hB1 hN1=>Br (cs:=[u4]) hC1 (B7 g4) z z fun b2 w2 hC2 hB2 hN2=>Ad z z<|Ab<|A6<|be hF fun r1 hr1 hF=>BI (fun l w=>∃x1:Bool,x1=r1∧l=[(2,u3),(5,(ptr b1 0)),(7,(ptr b2 0)),(19,(.bool x1))]∧Below w2.heap.size w2 w∧Ctx [] w0 w [Ag b2 [u4],Ag b1 [u2]]) ?_ ?_
 ·refine Bg<|Ae z z<|Ae z z<|be hr1 fun x2 hr2 hr1=>cb Tryz.call83 z z (c_M_AreRules a1 u1 (g1.now hC2.keep) a3 u3 (g3.now hC2.keep) x2 hr2) fun w4 hB4=>have hC4:=hC2.grow hB4;B3 z z<|Ae z z<|Bz (fun hc1=>?_) (fun hc1=>?_)
  ·replace hr1:=A7 hr1 hc1
   refine gs z z z z<|gs z z z z<|gs z z z z<|gs z z z z<|gs z z z z<|AW z z z<|Ab<|?_
   obtain rfl:=Aa hr1
   exact Am (l':=[(2,u3),(5,(ptr b1 0)),(7,(ptr b2 0)),(19,(.bool true))]) ⟨z,z,z,z,Aj⟩<|⟨true,z,z,(Ao hB4).below,hC4⟩
  replace hr1:=A8 hr1 hc1
  refine Ah z z<|Ae z z<|Ah z z<|Aq hC4 1 z z Cy z z<|Ah z z<|Aq hC4 0 z z Tryz.isAgg26 z z<|be hr1 fun x3 hr3 hr1=>Ah z z<|cb Tryz.call16 z z (c_M_IsConsistent a1 u1 (g1.now hC4.keep) a2 u2 (g2.now hC4.keep) a4 u4 (g4.now hC4.keep) x3 hr3) fun w5 hB5=>have hC5:=hC4.grow hB5;Ah z z<|B3 z z<|AZ z z z<|Ab<|?_
  obtain rfl:=Aa hr1
  exact Am (l':=[(2,u3),(5,(ptr b1 0)),(7,(ptr b2 0)),(19,(.bool (!x3)))]) ⟨z,z,z,z,Aj⟩<|⟨(!x3),z,z,((Ao hB4).then hB5).below,hC5⟩
 rintro _ w3 ⟨x1,rfl,rfl,hB3,hC3⟩
 try dsimp only at hF
 refine AE z (fun hc2=>?_) (fun hc2=>?_)
 ·replace hF:=A7 hF hc2
  refine Ac<|Ad z z<|Ab<|AL<|Av<|?_
  obtain rfl:=Aa hF
  exact A2 z z<|⟨_,z,nil_res hC3⟩
 replace hF:=A8 hF hc2
 refine AF<|Ap<|Ac<|Ae z z<|Aq hC3 0 z z Tryz.isAgg26 z z<|be hF fun x4 hr4 hF=>AG Tryz.call13 z z (c_M_UnionOf a4 u4 (g4.now hC3.keep) x4 hr4)<|?_
 rintro v1 w6 ⟨hB6,F1,hv3,hn1,hb1⟩
 have hC6:=hC3.push hB6 (A:=Af v1 x4) hv3 hn1 hb1
 refine be hF fun x5 hr5 hF=>AG Tryz.call85 z z (c_M_missing a3 u3 (g3.now hC6.keep) x4 v1 ((hC6.ro 0 z).now (A1 _ _)) x5 hr5)<|?_
 rintro v2 w7 ⟨hB7,F2,hv4,hn2,hb2⟩
 have hC7:=hC6.push hB7 (A:=Af v2 x5) hv4 hn2 hb2
 refine BP z z<|be hF fun x6 hr6 hF=>?_
 obtain ⟨Fs1,hH1,hn3,hF1,hO1,hX1,hb3⟩:=Ctx.lend3 (As:=[Af v1 (x4:(List (Int × (List Int)))),Ag b2 [u4],Ag b1 [u2]]) [Af v2 (x5:(List (Int × (List Int))))] hC7
 refine AG Tryz.call84 z z (c_Slices_DeleteFunc_Limpl_Fact_impl_Fact_M_BrokenRules_c1 x5 v2 b2 a4 (roat_box (hX1 1 _ _ z) (repd_slice (Bf g4 hC7.keep hF1))) b1 a2 (roat_box (hX1 2 _ _ z) (repd_slice (Bf g2 hC7.keep hF1))) hH1 hn3 x6 hr6) ?_
 rintro v3 w9 ⟨_,rfl,hq4⟩
 have hC9:Ctx [] w0 w9 [Af v3 (x6:(List (Int × (List Int)))),Af v1 (x4:(List (Int × (List Int)))),Ag b2 [u4],Ag b1 [u2]]:=hb3 _ _ hq4
 refine Ad z z<|Ab<|AL<|?_
 obtain rfl:=Aa hF
 exact A2 z z<|⟨_,z,BY hC9 0 z⟩
theorem c_S_DrawDisagree {w0:World} (a1:(List UInt8)) (u1:Value) (g1:RO [] w0 u1 a1) (rr:((List Int) × (List (Int × (List Int) × Int × Int × Int)) × ((Int × (List Int)) × (List (Int × (List Int)))) × ((Int × (List Int)) × (List (Int × (List Int)))))) (hF:S.DrawDisagree a1=some rr) :
 Calls Tryz.prog 24 [u1].toArray w0 fun e w'=>∃v,e=.returned v∧∃q0:Value,∃q1:Value,∃q2:Value,∃q3:Value,v=(.tuple #[q0,q1,q2,q3])∧Ctx [] w0 w' [Af q0 (rr.1:(List Int)),Af q1 (rr.2.1:(List (Int × (List Int) × Int × Int × Int))),Af q2 (rr.2.2.1:((Int × (List Int)) × (List (Int × (List Int))))),Af q3 (rr.2.2.2:((Int × (List Int)) × (List (Int × (List Int)))))]:=by
 refine Ax Tryz.func24 z z ?_
 have hC0:=A5 w0
 unfold S.DrawDisagree at hF
 refine Ac<|Ad z z<|Ad z z<|Bw hC0 zero46 z z fun b1 w1 hC1 hB1 hN1=>Bw hC1 zero46 z z fun b2 w2 hC2 hB2 hN2=>Ab<|Ac<|Ae z z<|be hF fun x1 hr1 hF=>AG C4 z z (c_S_l1New a1 u1 (g1.now hC2.keep) x1 hr1)<|?_
 rintro _ w3 ⟨b3,rfl,hq1⟩
 have hC3:Ctx [] w0 w3 [Ag b3 [u1,(I x1.2.1),(I x1.2.2)],Ag b2 [(I 0),(.slice none 0 0),(.slice none 0 0)],Ag b1 [(I 0),(.slice none 0 0),(.slice none 0 0)]]:=hC2.push2 hq1
 obtain ⟨x2,hr2,hF⟩:=CD hF
 obtain ⟨Fs2,hH2,hn2,hF2,hO2,hb2⟩:=AX (As:=[Ag b2 [(I 0),(.slice none 0 0),(.slice none 0 0)],Ag b1 [(I 0),(.slice none 0 0),(.slice none 0 0)]]) [Ag b3 [u1,(I x1.2.1),(I x1.2.2)]] hC3
 refine AG C5 z z (c_S_l28List b3 (a1,x1.2.1,x1.2.2) u1 (Bf g1 hC3.keep hF2) hH2 hn2 x2 hr2) ?_
 rintro _ w4 ⟨v1,v2,v3,v4,rfl,hq2⟩
 have hC4:Ctx [] w0 w4 [Af v1 (x2.1:(List Int)),Af v2 (x2.2.1:(List (Int × (List Int) × Int × Int × Int))),Af v3 (x2.2.2.1:(List (Int × (List Int)))),Af v4 (x2.2.2.2.1:(List ((Int × (List Int)) × (List (Int × (List Int)))))),Ag b3 [u1,(I x2.2.2.2.2.2.1),(I x2.2.2.2.2.2.2)],Ag b2 [(I 0),(.slice none 0 0),(.slice none 0 0)],Ag b1 [(I 0),(.slice none 0 0),(.slice none 0 0)]]:=hb2 _ _ hq2
 refine Ae z z<|Bh z z z<|Bh z z z<|Bh z z z<|Bh z z z<|Ad z z<|Ad z z<|Ad z z<|Ad z z<|Ab<|A6<|Ac<|Ae z z<|Bc A0 (hC4.ro 3 z) z z<|Ca z z z<|Ab<|AE z (fun hc1=>?_) (fun hc1=>?_)
 ·replace hF:=A7 hF hc1
  refine be hF fun r1 hr3 hF=>BI (fun l w=>∃x3:Int,∃v5:Value,∃x4:(List Int),∃v6:Value,∃x5:(List (Int × (List Int))),∃x6:Int,∃v7:Value,∃x7:(List Int),∃v8:Value,∃x8:(List (Int × (List Int))),∃v9:Value,∃x9:(List Int),∃v10:Value,∃x10:(List (Int × (List Int) × Int × Int × Int)),(x3,x4,x5,x6,x7,x8,x9,x10)=r1∧l=[(2,v9),(3,v10),(4,(ptr b1 0)),(5,(ptr b2 0))]∧Ctx [] w0 w [Af v10 (x10:(List (Int × (List Int) × Int × Int × Int))),Af v9 (x9:(List Int)),Af v8 (x8:(List (Int × (List Int)))),Af v7 (x7:(List Int)),Af v6 (x5:(List (Int × (List Int)))),Af v5 (x4:(List Int)),Ag b2 [(I x3),v5,v6],Ag b1 [(I x6),v7,v8]]) ?_ ?_
  ·refine be hr3 fun x11 hx1 hr3=>be hr3 fun x12 hx2 hr3=>have hC6:=hC4.f3;?_
   obtain ⟨b4,cs1,cs2,hE1,hC7⟩:=hC6.openPair hx1 hx2
   obtain ⟨v11,v12,he1,hC8⟩:=st46_own (hC7.cellsOwn z)
   obtain rfl:=cells_of_agg he1
   have hC9:=hC8.f2
   obtain ⟨v13,v14,he2,hC10⟩:=st46_own (hC9.cellsOwn z)
   obtain rfl:=cells_of_agg he2
   refine W_drawn 12 z hmix fun w6 hB4=>have hC11:=hC10.grow hB4;tm 0 z z z<|tm 1 z z z<|tm 2 z z z<|tk 3 z z (fl_index_pair hC11 4 z A0 ty46 hE1 hx1 z z)<|WL_index_pair hC11 4 z A0 ty46 hE1 hx1 z z z<|Ab<|tm 5 z z z<|tk 6 z z (fl_index_pair hC11 4 z A0 ty46 hE1 hx2 z z)<|WL_index_pair hC11 4 z A0 ty46 hE1 hx2 z z z<|Ab<|ta 8 z z z<|ta 9 z z z<|wAS (l':=[(0,u1),(2,v1),(3,v2),(4,(ptr b1 0)),(5,(ptr b2 0)),(6,v1),(7,v2),(8,v3),(9,v4),(10,(.tuple #[v1,v2,v3,v4])),(11,u1),(12,(ptr b3 0)),(13,(.tuple #[v1,v2,v3,v4])),(14,v1),(15,v2),(16,v3),(17,v4),(18,v4),(19,(I (List.length x2.2.2.2.1:Int))),(20,(.bool (decide (1 < (List.length x2.2.2.2.1:Int))))),(21,v1),(22,v2),(23,v4),(24,(ptr b4 (Int.toNat 0 * Rep.sz ((Int × (List Int)) × (List (Int × (List Int))))))),(26,v4),(27,(ptr b4 (Int.toNat 1 * Rep.sz ((Int × (List Int)) × (List (Int × (List Int)))))))]) ⟨z,z,z,z,z,z,z,z,z,z,z,z,z,z,z,z,z,z,z,z,z,z,z,z,z,z,Aj⟩<|WA_postsO [⟨4,[],fun vs=>Ba (.agg #[(I x11.1.1),v11,v12]),[]⟩,⟨7,[],fun vs=>Ba (.agg #[(I x12.1.1),v13,v14]),[]⟩] [[],[]] [7] 2 z (by kernel_rfl) (by kernel_rfl) ?_ ⟨?_,?_,Aj⟩
   ·refine An z ?_ ?_
    ·intro w7 hB5
     refine At<|⟨_,z,?_⟩
     exact WL_load_pair0_agg (fo:=0) (cs':=[(I x11.1.1),v11,v12]) (hC11.grow hB5) 4 z hE1 z z z Bm AT z z<|Ab<|Aw (Al _ _) z z ⟨z,z⟩
    refine An z ?_ ?_
    ·intro w7 hB5
     refine At<|⟨_,z,?_⟩
     exact CA (fo:=0) (cs':=[(I x12.1.1),v13,v14]) (hC11.grow hB5) 4 z hE1 z z z Bm AT z z<|Ab<|Aw (Al _ _) z z ⟨z,z⟩
    exact Bj
   ·intro g' hg'
    obtain rfl:g'=2:=hg'
    intro w9 hB6
    refine Ar z z z ?_
    rintro _ _ ⟨rfl,rfl⟩
    refine Ar z z z ?_
    rintro _ _ ⟨rfl,rfl⟩
    refine Bt fun hn3 hb3=>have hC12:=hC11.grow hB6;oe 10 z<|AA (cs':=[(I x11.1.1),v11,v12]) (new:=[(I x11.1.1),v11,v12]) hC12 10 z z (fac z<|fac (B0 (hC12.ro 2 z))<|fac (B0 (hC12.ro 3 z))<|fa0) z AT z z fun w10 hC13 hKp1=>?_
    try dsimp only [List.set] at hC13
    refine Ab<|oe 11 z<|AA (cs':=[(I x12.1.1),v13,v14]) (new:=[(I x12.1.1),v13,v14]) hC13 9 z z (fac z<|fac (B0 (hC13.ro 0 z))<|fac (B0 (hC13.ro 1 z))<|fa0) z AT z z fun w11 hC14 hKp2=>?_
    try dsimp only [List.set] at hC14
    refine Ab<|dn<|?_
    obtain rfl:=Aa hr3
    have hC15:=hC14.f10
    have hC16:=hC15.f10
    have hC17:=hC16.f2
    have hC18:=hC17.f3
    have hC19:=hC18.f4
    have hC20:=hC19.f5
    have hC21:=hC20.f7
    have hC22:=hC21.f8
    have hC23:=hC22.h8
    exact Am (l':=[(2,v1),(3,v2),(4,(ptr b1 0)),(5,(ptr b2 0))]) ⟨z,z,z,z,Aj⟩<|⟨x12.1.1,v13,x12.1.2,v14,x12.2,x11.1.1,v11,x11.1.2,v12,x11.2,v1,x2.1,v2,x2.2.1,z,z,hC23⟩
   intro g' hg'
   obtain rfl:g'=3:=hg'
   intro w9 hB6
   refine Ar z z z ?_
   rintro _ _ ⟨rfl,rfl⟩
   refine Bt fun hn3 hb3=>have hC12:=hC11.grow hB6;Cn (i:=7) (j:=10) (by kernel_rfl) z z ?_ ?_
   ·refine CA (fo:=0) (cs':=[(I x12.1.1),v13,v14]) hC12 4 z hE1 z z z Bm AT z z<|Ab<|oe 10 z<|AA (cs':=[(I x11.1.1),v11,v12]) (new:=[(I x11.1.1),v11,v12]) hC12 10 z z (fac z<|fac (B0 (hC12.ro 2 z))<|fac (B0 (hC12.ro 3 z))<|fa0) z AT z z fun w10 hC13 hKp1=>?_
    try dsimp only [List.set] at hC13
    refine Ab<|oe 11 z<|AA (cs':=[(I x12.1.1),v13,v14]) (new:=[(I x12.1.1),v13,v14]) hC13 9 z z (fac z<|fac (B0 (hC13.ro 0 z))<|fac (B0 (hC13.ro 1 z))<|fa0) z AT z z fun w11 hC14 hKp2=>?_
    try dsimp only [List.set] at hC14
    refine Ab<|dn<|?_
    obtain rfl:=Aa hr3
    have hC15:=hC14.f10
    have hC16:=hC15.f10
    have hC17:=hC16.f2
    have hC18:=hC17.f3
    have hC19:=hC18.f4
    have hC20:=hC19.f5
    have hC21:=hC20.f7
    have hC22:=hC21.f8
    have hC23:=hC22.h8
    exact Am (l':=[(2,v1),(3,v2),(4,(ptr b1 0)),(5,(ptr b2 0))]) ⟨z,z,z,z,Aj⟩<|⟨x12.1.1,v13,x12.1.2,v14,x12.2,x11.1.1,v11,x11.1.2,v12,x11.2,v1,x2.1,v2,x2.2.1,z,z,hC23⟩
   refine AA (cs':=[(I x11.1.1),v11,v12]) (new:=[(I x11.1.1),v11,v12]) hC12 10 z z (fac z<|fac (B0 (hC12.ro 2 z))<|fac (B0 (hC12.ro 3 z))<|fa0) z AT z z (fun w10 hC13 hKp1=>?_)
   try dsimp only [List.set] at hC13
   refine Ab<|oe 7 z<|CA (fo:=0) (cs':=[(I x12.1.1),v13,v14]) hC13 4 z hE1 z z z Bm AT z z<|Ab<|oe 11 z<|AA (cs':=[(I x12.1.1),v13,v14]) (new:=[(I x12.1.1),v13,v14]) hC13 9 z z (fac z<|fac (B0 (hC13.ro 0 z))<|fac (B0 (hC13.ro 1 z))<|fa0) z AT z z fun w11 hC14 hKp2=>?_
   try dsimp only [List.set] at hC14
   refine Ab<|dn<|?_
   obtain rfl:=Aa hr3
   have hC15:=hC14.f10
   have hC16:=hC15.f10
   have hC17:=hC16.f2
   have hC18:=hC17.f3
   have hC19:=hC18.f4
   have hC20:=hC19.f5
   have hC21:=hC20.f7
   have hC22:=hC21.f8
   have hC23:=hC22.h8
   exact Am (l':=[(2,v1),(3,v2),(4,(ptr b1 0)),(5,(ptr b2 0))]) ⟨z,z,z,z,Aj⟩<|⟨x12.1.1,v13,x12.1.2,v14,x12.2,x11.1.1,v11,x11.1.2,v12,x11.2,v1,x2.1,v2,x2.2.1,z,z,hC23⟩
  rintro _ w5 ⟨x3,v5,x4,v6,x5,x6,v7,x7,v8,x8,v9,x9,v10,x10,rfl,rfl,hC5⟩
  try dsimp only at hF
  refine AL (Av ?_)
  obtain rfl:=Aa hF
  refine fn_retG4 z (rv_tmp z) (rv_tmp z) (rv_cell_agg (cs':=[(I x6),v7,v8]) hC5 (i:=7) z z z Bm AT z) (rv_cell_agg (cs':=[(I x3),v5,v6]) hC5 (i:=6) z z z Bm AT z)<|have hC25:=hC5.f4;have hC26:=hC25.f5;?_
  have hC24:=BO x3 v5 x4 v6 x5 hC26
  have hC28:=hC24.f3
  have hC29:=hC28.f4
  have hC27:=BO x6 v7 x7 v8 x8 hC29
  have hC30:=hC27.f2
  have hC31:=hC30.f3
  have hC32:=hC31.h4
  exact ⟨_,z,_,_,_,_,z,hC32⟩
 replace hF:=A8 hF hc1
 refine AF<|Ap<|Ac<|Ae z z<|Ae z z<|BH (vs:=[]) z z z built46<|BH (vs:=[]) z z z built46<|Ad z z<|Ad z z<|AA (cs':=[(I 0),(.slice none 0 0),(.slice none 0 0)]) (new:=[(I 0),(.slice none 0 0),(.slice none 0 0)]) hC4 6 z z (fac z<|fac z<|fac z<|fa0) z AT z z fun w12 hC33 hKp3=>?_
 try dsimp only [List.set] at hC33
 refine AA (cs':=[(I 0),(.slice none 0 0),(.slice none 0 0)]) (new:=[(I 0),(.slice none 0 0),(.slice none 0 0)]) hC33 5 z z (fac z<|fac z<|fac z<|fa0) z AT z z (fun w13 hC34 hKp4=>?_)
 try dsimp only [List.set] at hC34
 refine Ab (AL ?_)
 obtain rfl:=Aa hF
 refine fn_retG4 z (rv_tmp z) (rv_tmp z) (rv_cell_agg (cs':=[(I 0),(.slice none 0 0),(.slice none 0 0)]) hC34 (i:=6) z z z Bm AT z) (rv_cell_agg (cs':=[(I 0),(.slice none 0 0),(.slice none 0 0)]) hC34 (i:=5) z z z Bm AT z) ?_
 have hC36:=hC34.triv (nil_val (α:=(Int × (List Int))))
 have hC37:=hC36.triv (nil_val (α:=Int))
 have hC35:=BO 0 (.slice none 0 0) ([]) (.slice none 0 0) ([]) hC37
 have hC39:=hC35.triv (nil_val (α:=(Int × (List Int))))
 have hC40:=hC39.triv (nil_val (α:=Int))
 have hC38:=BO 0 (.slice none 0 0) ([]) (.slice none 0 0) ([]) hC40
 have hC41:=hC38.f3
 have hC42:=hC41.f3
 have hC43:=hC42.h4
 exact ⟨_,z,_,_,_,_,z,hC43⟩
theorem c_S_l28Told {w0:World} (a1:(List UInt8)) (u1:Value) (g1:RO [] w0 u1 a1) (rr:((List Int) × (List (Int × (List Int) × Int × Int × Int)) × ((Int × (List Int)) × (List (Int × (List Int)))))) (hF:S.l28Told a1=some rr) :
 Calls Tryz.prog 89 [u1].toArray w0 fun e w'=>∃v,e=.returned v∧Res3 w0 rr.1 rr.2.1 rr.2.2 v w':=by
 refine Ax Tryz.func89 z z ?_
 have hC0:=A5 w0
 unfold S.l28Told at hF
 refine Ac<|Ad z z<|Ad z z<|Bw hC0 zero46 z z fun b1 w1 hC1 hB1 hN1=>Ab<|Ac<|Ae z z<|be hF fun x1 hr1 hF=>AG C4 z z (c_S_l1New a1 u1 (g1.now hC1.keep) x1 hr1)<|?_
 rintro _ w2 ⟨b2,rfl,hq1⟩
 have hC2:Ctx [] w0 w2 [Ag b2 [u1,(I x1.2.1),(I x1.2.2)],Ag b1 [(I 0),(.slice none 0 0),(.slice none 0 0)]]:=hC1.push2 hq1
 obtain ⟨x2,hr2,hF⟩:=CD hF
 obtain ⟨Fs2,hH2,hn2,hF2,hO2,hb2⟩:=AX (As:=[Ag b1 [(I 0),(.slice none 0 0),(.slice none 0 0)]]) [Ag b2 [u1,(I x1.2.1),(I x1.2.2)]] hC2
 refine AG C5 z z (c_S_l28List b2 (a1,x1.2.1,x1.2.2) u1 (Bf g1 hC2.keep hF2) hH2 hn2 x2 hr2) ?_
 rintro _ w3 ⟨v1,v2,v3,v4,rfl,hq2⟩
 have hC3:Ctx [] w0 w3 [Af v1 (x2.1:(List Int)),Af v2 (x2.2.1:(List (Int × (List Int) × Int × Int × Int))),Af v3 (x2.2.2.1:(List (Int × (List Int)))),Af v4 (x2.2.2.2.1:(List ((Int × (List Int)) × (List (Int × (List Int)))))),Ag b2 [u1,(I x2.2.2.2.2.2.1),(I x2.2.2.2.2.2.2)],Ag b1 [(I 0),(.slice none 0 0),(.slice none 0 0)]]:=hb2 _ _ hq2
 refine Ae z z<|Bh z z z<|Bh z z z<|Bh z z z<|Bh z z z<|Ad z z<|Ad z z<|Ad z z<|Ad z z<|Ab<|A6<|Ac<|Ae z z<|Bc A0 (hC3.ro 3 z) z z<|Ca z z z<|Ab<|AE z (fun hc1=>?_) (fun hc1=>?_)
 ·replace hF:=A7 hF hc1
  refine A6<|be hF fun x3 hx1 hF=>have hC4:=hC3.f3;?_
  obtain ⟨b3,hE1⟩:=hC4.eb hx1
  obtain ⟨cs1,hC5⟩:=hC4.openElem hx1
  obtain ⟨v5,v6,he1,hC6⟩:=st46_own (hC5.cellsOwn z)
  obtain rfl:=cells_of_agg he1
  refine W_drawn 11 z hmix fun w4 hB2=>have hC7:=hC6.grow hB2;tm 0 z z z<|tm 1 z z z<|tm 2 z z z<|tm 3 z z z<|tk 4 z z (fl_len_hole hC7 2 z A0 z)<|WL_len_hole hC7 2 z A0 z z<|Ab<|tk 5 z z (Ct z z)<|BR z z z<|Ab<|tk 6 z z (fl_index_hole hC7 2 z A0 ty46 hE1 hx1 z z)<|WL_index_hole hC7 2 z A0 ty46 hE1 hx1 z z z<|Ab<|ta 8 z z z<|ta 9 z z z<|oe 7 z<|WL_load_hole_agg (fo:=0) (cs':=[(I x3.1.1),v5,v6]) hC7 2 z hE1 z z z Bm AT z z<|Ab<|oe 10 z<|AA (cs':=[(I x3.1.1),v5,v6]) (new:=[(I x3.1.1),v5,v6]) hC7 7 z z (fac z<|fac (B0 (hC7.ro 0 z))<|fac (B0 (hC7.ro 1 z))<|fa0) z AT z z fun w5 hC8 hKp1=>?_
  try dsimp only [List.set] at hC8
  refine Ab<|dn<|Ap<|AL<|Av<|?_
  obtain rfl:=Aa hF
  refine fn_retG3 z (rv_tmp z) (rv_tmp z) (rv_cell_agg (cs':=[(I x3.1.1),v5,v6]) hC8 (i:=7) z z z Bm AT z)<|have hC10:=hC8.f1;have hC11:=hC10.f1;?_
  have hC9:=BO x3.1.1 v5 x3.1.2 v6 x3.2 hC11
  have hC12:=hC9.f3
  have hC13:=hC12.f3
  exact ⟨_,z,res3_of hC13⟩
 replace hF:=A8 hF hc1
 refine AF<|Ap<|Ac<|Ae z z<|Ae z z<|BH (vs:=[]) z z z built46<|Ad z z<|Ad z z<|AA (cs':=[(I 0),(.slice none 0 0),(.slice none 0 0)]) (new:=[(I 0),(.slice none 0 0),(.slice none 0 0)]) hC3 5 z z (fac z<|fac z<|fac z<|fa0) z AT z z fun w6 hC14 hKp2=>?_
 try dsimp only [List.set] at hC14
 refine Ab (AL ?_)
 obtain rfl:=Aa hF
 refine fn_retG3 z (rv_tmp z) (rv_tmp z) (rv_cell_agg (cs':=[(I 0),(.slice none 0 0),(.slice none 0 0)]) hC14 (i:=5) z z z Bm AT z) ?_
 have hC16:=hC14.triv (nil_val (α:=(Int × (List Int))))
 have hC17:=hC16.triv (nil_val (α:=Int))
 have hC15:=BO 0 (.slice none 0 0) ([]) (.slice none 0 0) ([]) hC17
 have hC18:=hC15.f2
 have hC19:=hC18.f2
 exact ⟨_,z,res3_of hC19⟩
theorem c_S_DrawFitsSelf {w0:World} (a1:(List UInt8)) (u1:Value) (g1:RO [] w0 u1 a1) (rr:((List Int) × (List (Int × (List Int) × Int × Int × Int)) × ((Int × (List Int)) × (List (Int × (List Int)))))) (hF:S.DrawFitsSelf a1=some rr) :
 Calls Tryz.prog 25 [u1].toArray w0 fun e w'=>∃v,e=.returned v∧Res3 w0 rr.1 rr.2.1 rr.2.2 v w':=by
 refine Ax Tryz.func25 z z ?_
 have hC0:=A5 w0
 unfold S.DrawFitsSelf at hF
 refine Ac<|Ad z z<|Ad z z<|Bw hC0 zero46 z z fun b1 w1 hC1 hB1 hN1=>Ab<|Ac<|Ae z z<|be hF fun x1 hr1 hF=>AG Tryz.call89 z z (c_S_l28Told a1 u1 (g1.now hC1.keep) x1 hr1)<|?_
 rintro _ w2 ⟨hB2,v1,v2,v3,F1,F2,F3,rfl,hv1,hv2,hv3,hn1,hb1⟩
 have hC2:=hC1.pushL hB2 (Bs:=[Af v1 x1.1,Af v2 x1.2.1,Af v3 x1.2.2]) (Fs:=[F1,F2,F3]) ⟨F1,_,z,hv1,F2,_,z,hv2,F3,_,z,hv3,z⟩ (by simpa using hn1) (fun b h=>hb1 b (by simpa using h))
 have hC3:=hC2.f2
 obtain ⟨v4,v5,rfl,hC4⟩:=st46_own hC3
 refine Ae z z<|Bh z z z<|Bh z z z<|Bh z z z<|Bw hC4 zero46 z z fun b2 w3 hC5 hB3 hN2=>Ad z z<|Ad z z<|AA (cs':=[(I x1.2.2.1.1),v4,v5]) (new:=[(I x1.2.2.1.1),v4,v5]) hC5 0 z z (fac z<|fac (B0 (hC5.ro 1 z))<|fac (B0 (hC5.ro 2 z))<|fa0) z AT z z fun w4 hC6 hKp1=>?_
 try dsimp only [List.set] at hC6
 have hk1:=AO (((Ao hB1).then hB2).then hB3) (AS ((Ao hB1).then hB2).size hN2) hKp1
 have hk2:=AO ((Ao hB2).then hB3) (AS (Ao hB2).size hN2) hKp1
 have hk3:=AO (Ao hB3) hN2 hKp1
 refine Ab<|A6<|W_drawn 6 z hmix fun w5 hB4=>have hC7:=hC6.grow hB4;tm 0 z z z<|tm 1 z z z<|ta 3 z z z<|ta 4 z z z<|oe 2 z<|Au [(I x1.2.2.1.1),v4,v5] hC7 0 z z z Bm AT z z<|Ab<|oe 5 z<|AA (cs':=[(I x1.2.2.1.1),v4,v5]) (new:=[(I x1.2.2.1.1),v4,v5]) hC7 5 z z (fac z<|fac (B0 (hC7.ro 1 z))<|fac (B0 (hC7.ro 2 z))<|fa0) z AT z z fun w6 hC8 hKp2=>?_
 try dsimp only [List.set] at hC8
 have hk4:=AO (hk1.then hB4) hN1 hKp2
 refine Ab<|dn<|Ap<|AL<|?_
 obtain rfl:=Aa hF
 refine fn_retG3 z (rv_tmp z) (rv_tmp z) (rv_cell_agg (cs':=[(I x1.2.2.1.1),v4,v5]) hC8 (i:=5) z z z Bm AT z)<|have hC10:=hC8.f2;have hC11:=hC10.f2;?_
 have hC9:=BO x1.2.2.1.1 v4 x1.2.2.1.2 v5 x1.2.2.2 hC11
 have hC12:=hC9.f3
 have hC13:=hC12.f3
 exact ⟨_,z,res3_of hC13⟩
theorem c_S_IsRule {w0:World} (a1:(List Int)) (u1:Value) (g1:RO [] w0 u1 a1) (a2:(Int × Int × (List Int))) (u2:Value) (g2:RO [] w0 u2 a2.2.2) (rr:Bool) (hF:S.IsRule a1 a2=some rr) :
 Calls Tryz.prog 149 [u1,(.agg #[(I a2.1),(I a2.2.1),u2])].toArray w0 fun e w'=>∃v,e=.returned v∧Res w0 rr v w':=by
 refine Ax Tryz.func149 z z ?_
 have hC0:=A5 w0
 unfold S.IsRule at hF
 refine Ac<|Br (cs:=[(I a2.1),(I a2.2.1),u2]) hC0 z z z fun b1 w1 hC1 hB1 hN1=>Ad z z<|Ab<|A6<|be hF fun r1 hr1 hF=>BI (fun l w=>∃x1:Bool,x1=r1∧l=[(0,u1),(3,(ptr b1 0)),(37,(.bool x1))]∧Below w1.heap.size w1 w∧Ctx [] w0 w [Ag b1 [(I a2.1),(I a2.2.1),u2]]) ?_ ?_
 ·refine W_drawn 32 z hmix fun w3 hB3=>have hC3:=hC1.grow hB3;tm 0 z z z<|be hr1 fun x2 hr2 hr1=>oe 1 z<|cb BX z z (c_S_IsSchema a1 u1 (g1.now hC3.keep) x2 hr2) fun w4 hB4=>have hC4:=hC3.grow hB4;Ab<|tk 2 z z (Cl z)<|B3 z z<|Ab<|tm 3 z z z<|BC (fun hc1=>?_) (fun hc1=>?_)
  ·replace hr1:=A7 hr1 hc1
   refine sk 4 z z z z z<|sk 5 z z z z z<|sk 6 z z z z z<|sk 7 z z z z z<|sk 8 z z z z z<|sk 9 z z z z z<|sk 10 z z z z z<|tp 11 z z z z<|tm 12 z z z<|sk 13 z z z z z<|sk 14 z z z z z<|sk 15 z z z z z<|sk 16 z z z z z<|sk 17 z z z z z<|sk 18 z z z z z<|sk 19 z z z z z<|tp 20 z z z z<|tm 21 z z z<|sk 22 z z z z z<|sk 23 z z z z z<|sk 24 z z z z z<|sk 25 z z z z z<|sk 26 z z z z z<|sk 27 z z z z z<|sk 28 z z z z z<|sk 29 z z z z z<|sk 30 z z z z z<|tp 31 z z z z<|dn<|?_
   obtain rfl:=Aa hr1
   exact Am (l':=[(0,u1),(3,(ptr b1 0)),(37,(.bool true))]) ⟨z,z,z,Aj⟩<|⟨true,z,z,((Ao hB3).then hB4).below,hC4⟩
  replace hr1:=A8 hr1 hc1
  refine tg 4 z z z z (BB Bb z z (fun w=>⟨_,Ay w⟩) z)<|Ah z z<|fd Bb Ay z z z z<|Ab<|tn 6 z z z z z<|tg 7 z z z z (Df Ak g1 z)<|Ah z z<|Bc Ak g1 z z<|Ab<|tg 8 z z z z (Ct z z)<|Ah z z<|BR z z z<|Ab<|oe 5 z<|Ah z z<|Aq hC4 0 z z AR z z<|Ab<|be hr1 fun x3 hr3 hr1=>oe 9 z<|Ah z z<|cb BL z z (c_S_l1In a2.1 0 (w64 ((List.length a1:Int) - 1)) x3 hr3) fun w5 hB5=>have hC5:=hC4.grow hB5;Ab<|tg 10 z z z z (Cl z)<|Ah z z<|B3 z z<|Ab<|tq 11 z z z z<|tm 12 z z z<|BC (fun hc2=>?_) (fun hc2=>?_)
  ·replace hr1:=A7 hr1 hc2
   refine sk 13 z z z z z<|sk 14 z z z z z<|sk 15 z z z z z<|sk 16 z z z z z<|sk 17 z z z z z<|sk 18 z z z z z<|sk 19 z z z z z<|tp 20 z z z z<|tm 21 z z z<|sk 22 z z z z z<|sk 23 z z z z z<|sk 24 z z z z z<|sk 25 z z z z z<|sk 26 z z z z z<|sk 27 z z z z z<|sk 28 z z z z z<|sk 29 z z z z z<|sk 30 z z z z z<|tp 31 z z z z<|dn<|?_
   obtain rfl:=Aa hr1
   exact Am (l':=[(0,u1),(3,(ptr b1 0)),(37,(.bool true))]) ⟨z,z,z,Aj⟩<|⟨true,z,z,(((Ao hB3).then hB4).then hB5).below,hC5⟩
  replace hr1:=A8 hr1 hc2
  refine tg 13 z z z z (BB Bb z z (fun w=>⟨_,Ay w⟩) z)<|Ah z z<|fd Bb Ay z z z z<|Ab<|tn 15 z z z z z<|tg 16 z z z z (Df Ak g1 z)<|Ah z z<|Bc Ak g1 z z<|Ab<|tg 17 z z z z (Ct z z)<|Ah z z<|BR z z z<|Ab<|oe 14 z<|Ah z z<|Aq hC5 0 z z AR z z<|Ab<|be hr1 fun x4 hr4 hr1=>oe 18 z<|Ah z z<|cb BL z z (c_S_l1In a2.2.1 0 (w64 ((List.length a1:Int) - 1)) x4 hr4) fun w6 hB6=>have hC6:=hC5.grow hB6;Ab<|tg 19 z z z z (Cl z)<|Ah z z<|B3 z z<|Ab<|tq 20 z z z z<|tm 21 z z z<|BC (fun hc3=>?_) (fun hc3=>?_)
  ·replace hr1:=A7 hr1 hc3
   refine sk 22 z z z z z<|sk 23 z z z z z<|sk 24 z z z z z<|sk 25 z z z z z<|sk 26 z z z z z<|sk 27 z z z z z<|sk 28 z z z z z<|sk 29 z z z z z<|sk 30 z z z z z<|tp 31 z z z z<|dn<|?_
   obtain rfl:=Aa hr1
   exact Am (l':=[(0,u1),(3,(ptr b1 0)),(37,(.bool true))]) ⟨z,z,z,Aj⟩<|⟨true,z,z,((((Ao hB3).then hB4).then hB5).then hB6).below,hC6⟩
  replace hr1:=A8 hr1 hc3
  refine tg 22 z z z z (BB Bb z z (fun w=>⟨_,Az w⟩) z)<|Ah z z<|fd Bb Az z z z z<|Ab<|tn 25 z z z z z<|tg 26 z z z z (BB Bb z z (fun w=>⟨_,Ay w⟩) z)<|Ah z z<|fd Bb Ay z z z z<|Ab<|be hr1 fun x5 hx1 hr1=>wAS (l':=[(0,u1),(1,(.agg #[(I a2.1),(I a2.2.1),u2])),(3,(ptr b1 0)),(4,(.bool false)),(6,u1),(7,(.bool x2)),(8,(.bool (!x2))),(9,(.bool false)),(10,(ptr b1 0)),(11,(I a2.1)),(12,u1),(13,(I (List.length a1:Int))),(14,(I (w64 ((List.length a1:Int) - 1)))),(15,(.bool x3)),(16,(.bool (!x3))),(17,(.bool (!x3))),(18,(.bool false)),(19,(ptr b1 1)),(20,(I a2.2.1)),(21,u1),(22,(I (List.length a1:Int))),(23,(I (w64 ((List.length a1:Int) - 1)))),(24,(.bool x4)),(25,(.bool (!x4))),(26,(.bool (!x4))),(27,(.bool false)),(28,(ptr b1 2)),(31,u1),(32,(ptr b1 1))]) ⟨z,z,z,z,z,z,z,z,z,z,z,z,z,z,z,z,z,z,z,z,z,z,z,z,z,z,z,z,z,Aj⟩<|Bq [⟨23,[],fun vs=>Ba u2,[]⟩,⟨24,[],fun vs=>Ba (I (List.length a2.2.2:Int)),[]⟩,⟨27,[],fun vs=>Ba (I a2.2.1),[]⟩,⟨28,[],fun vs=>BZ [] w0 x5,[]⟩,⟨29,[],fun vs=>Ba (I x5),[]⟩] [[],[23],[],[27],[28]] 2 z (by kernel_rfl) (by kernel_rfl) z ?_ ?_
  ·refine An z ?_ ?_
   ·intro w7 hB7
    refine At<|⟨_,z,?_⟩
    exact Ah z z<|Aq (hC6.grow hB7) 0 z z AM z z<|Ab<|Aw (Al _ _) z z ⟨z,z⟩
   refine An z ?_ ?_
   ·intro w7 hB7
    refine AD z z z ?_
    rintro _ _ ⟨rfl,rfl⟩ _
    refine At<|⟨_,z,?_⟩
    exact Ah z z<|Bc Ak g2 z z<|Ab<|Aw (Al _ _) z z ⟨z,z⟩
   refine An z ?_ ?_
   ·intro w7 hB7
    refine At<|⟨_,z,?_⟩
    exact Ah z z<|Aq (hC6.grow hB7) 0 z z AR z z<|Ab<|Aw (Al _ _) z z ⟨z,z⟩
   refine An z ?_ ?_
   ·intro w7 hB7
    refine AD z z z ?_
    rintro _ _ ⟨rfl,rfl⟩ _
    refine At<|⟨_,z,?_⟩
    exact Ah z z<|AH Ak ty3 g1 hx1 z z z fun b2 o1 h1=>Ab<|Aw (Al _ _) z z ⟨z,_,_,z,h1⟩
   refine An z ?_ ?_
   ·intro w7 hB7
    refine AD z z z ?_
    rintro _ _ ⟨rfl,b2,o1,rfl,h1⟩ _
    refine At<|⟨_,z,?_⟩
    refine Ah z z<|AI ty3 h1 (hC6.keep.then hB7) z z fun v1 h2=>?_
    obtain rfl:=B8 h2
    exact Ab<|Aw (Al _ _) z z ⟨z,z⟩
   exact Bj
  intro w9 hB8
  refine Ar z z z ?_
  rintro _ _ ⟨rfl,rfl⟩
  refine Ar z z z ?_
  rintro _ _ ⟨rfl,rfl⟩
  refine Ar z z z ?_
  rintro _ _ ⟨rfl,rfl⟩
  refine Ar z z z ?_
  rintro _ _ ⟨rfl,b2,o1,rfl,h1⟩
  refine Ar z z z ?_
  rintro _ _ ⟨rfl,rfl⟩
  refine Bt fun hn1 hb1=>have hC7:=hC6.grow hB8;tg 30 z z z z (De z z)<|Ah z z<|Ch z z z<|Ab<|tq 31 z z z z<|dn<|?_
  obtain rfl:=Aa hr1
  exact Am (l':=[(0,u1),(3,(ptr b1 0)),(37,(.bool (!decide ((List.length a2.2.2:Int)=x5))))]) ⟨z,z,z,Aj⟩<|⟨(!decide ((List.length a2.2.2:Int)=x5)),z,z,(((((Ao hB3).then hB4).then hB5).then hB6).then hB8).below,hC7⟩
 rintro _ w2 ⟨x1,rfl,rfl,hB2,hC2⟩
 try dsimp only at hF
 refine AE z (fun hc4=>?_) (fun hc4=>?_)
 ·replace hF:=A7 hF hc4
  refine Ac<|Ad z z<|Ab<|AL<|Av<|?_
  obtain rfl:=Aa hF
  exact A2 z z<|⟨_,z,AN hC2 _⟩
 replace hF:=A8 hF hc4
 refine AF<|Ap<|A6<|Ac<|Ad z z<|Ab<|be hF fun r2 hr5 hF=>Bi (fun l w=>.inl ()=r2∧l=[]∧Below w2.heap.size w2 w∧Ctx [] w0 w []) ?_ ?_
 ·refine AJ<|wS (l':=[(0,u1),(3,(ptr b1 0)),(5,(I 0))]) ⟨z,z,z,Aj⟩<|B2 (fun k l w=>∃x6:Int,l=[(0,u1),(3,(ptr b1 0)),(5,(I x6))]∧Below w2.heap.size w2 w∧Ctx [] w0 w [Ag b1 [(I a2.1),(I a2.2.1),u2]]∧S.IsRule_l1 a2 a1 k x6=some r2) FUEL ⟨0,z,(Al _ _),hC2,hr5⟩<|?_
  clear hr5
  rintro k1 _ w10 ⟨x6,rfl,hB9,hC8,hL1⟩
  cases k1 with
  | zero=>rw [S.IsRule_l1] at hL1; cases hL1
  | succ k1 =>
   rw [S.IsRule_l1] at hL1
   refine A6<|Ac<|Ae z z<|fd Bb Az z z z z<|Aq hC8 0 z z AM z z<|Bc Ak g2 z z<|Bv z z z<|Ab<|AE z (fun hc5=>?_) (fun hc5=>?_)
   ·replace hL1:=A7 hL1 hc5
    refine AF<|Ap<|A6<|AJ<|A6<|W_drawn 13 z hmix fun w11 hB10=>have hC9:=hC8.grow hB10;tf 0 Bb Az z z z z z<|tm 2 z z z<|tm 5 z z z<|tf 6 Bb Ay z z z z z<|be hL1 fun x7 hx2 hL1=>be hL1 fun x8 hx3 hL1=>wAS (l':=[(0,u1),(3,(ptr b1 0)),(5,(I x6)),(38,(I x6)),(39,(ptr b1 2)),(40,u2),(41,(I (List.length a2.2.2:Int))),(42,(.bool (decide (x6 < (List.length a2.2.2:Int))))),(45,(ptr b1 2)),(47,(I x6)),(50,u1),(51,(ptr b1 0))]) ⟨z,z,z,z,z,z,z,z,z,z,z,z,Aj⟩<|Bq [⟨1,[],fun vs=>Ba u2,[]⟩,⟨3,[],fun vs=>BZ [] w0 x7,[]⟩,⟨4,[],fun vs=>Ba (I x7),[]⟩,⟨7,[],fun vs=>Ba (I a2.1),[]⟩,⟨8,[],fun vs=>BZ [] w0 x8,[]⟩,⟨9,[],fun vs=>Ba (I x8),[]⟩,⟨10,[],fun vs=>Ba (I (w64 (x8 - 1))),[]⟩] [[],[1],[3],[],[7],[8],[9]] 2 z (by kernel_rfl) (by kernel_rfl) z ?_ ?_
    ·refine An z ?_ ?_
     ·intro w12 hB11
      refine At<|⟨_,z,?_⟩
      exact Aq (hC9.grow hB11) 0 z z AM z z<|Ab<|Aw (Al _ _) z z ⟨z,z⟩
     refine An z ?_ ?_
     ·intro w12 hB11
      refine AD z z z ?_
      rintro _ _ ⟨rfl,rfl⟩ _
      refine At<|⟨_,z,?_⟩
      exact AH Ak ty3 g2 hx2 z z z fun b3 o2 h3=>Ab<|Aw (Al _ _) z z ⟨z,_,_,z,h3⟩
     refine An z ?_ ?_
     ·intro w12 hB11
      refine AD z z z ?_
      rintro _ _ ⟨rfl,b3,o2,rfl,h3⟩ _
      refine At<|⟨_,z,?_⟩
      refine AI ty3 h3 (hC9.keep.then hB11) z z (fun v2 h4=>?_)
      obtain rfl:=B8 h4
      exact Ab<|Aw (Al _ _) z z ⟨z,z⟩
     refine An z ?_ ?_
     ·intro w12 hB11
      refine At<|⟨_,z,?_⟩
      exact Aq (hC9.grow hB11) 0 z z AR z z<|Ab<|Aw (Al _ _) z z ⟨z,z⟩
     refine An z ?_ ?_
     ·intro w12 hB11
      refine AD z z z ?_
      rintro _ _ ⟨rfl,rfl⟩ _
      refine At<|⟨_,z,?_⟩
      exact AH Ak ty3 g1 hx3 z z z fun b4 o3 h5=>Ab<|Aw (Al _ _) z z ⟨z,_,_,z,h5⟩
     refine An z ?_ ?_
     ·intro w12 hB11
      refine AD z z z ?_
      rintro _ _ ⟨rfl,b4,o3,rfl,h5⟩ _
      refine At<|⟨_,z,?_⟩
      refine AI ty3 h5 (hC9.keep.then hB11) z z (fun v3 h6=>?_)
      obtain rfl:=B8 h6
      exact Ab<|Aw (Al _ _) z z ⟨z,z⟩
     refine An z ?_ ?_
     ·intro w12 hB11
      refine AD z z z ?_
      rintro _ _ ⟨rfl,rfl⟩ _
      refine At<|⟨_,z,?_⟩
      exact BR z z z<|Ab<|Aw (Al _ _) z z ⟨z,z⟩
     exact Bj
    intro w13 hB12
    refine Ar z z z ?_
    rintro _ _ ⟨rfl,rfl⟩
    refine Ar z z z ?_
    rintro _ _ ⟨rfl,b3,o2,rfl,h3⟩
    refine Ar z z z ?_
    rintro _ _ ⟨rfl,rfl⟩
    refine Ar z z z ?_
    rintro _ _ ⟨rfl,rfl⟩
    refine Ar z z z ?_
    rintro _ _ ⟨rfl,b4,o3,rfl,h5⟩
    refine Ar z z z ?_
    rintro _ _ ⟨rfl,rfl⟩
    refine Ar z z z ?_
    rintro _ _ ⟨rfl,rfl⟩
    refine Bt fun hn2 hb2=>have hC10:=hC9.grow hB12;be hL1 fun x9 hr6 hL1=>oe 11 z<|cb BL z z (c_S_l1In x7 0 (w64 (x8 - 1)) x9 hr6) fun w14 hB13=>have hC11:=hC10.grow hB13;Ab<|tk 12 z z (Cl z)<|B3 z z<|Ab<|dn<|Ap<|AE z (fun hc6=>?_) (fun hc6=>?_)
    ·replace hL1:=A7 hL1 hc6
     refine Ac<|Ad z z<|Ab<|AL<|Bd<|Av<|Av<|Bd<|Av<|Av<|?_
     obtain rfl:=Aa hL1
     dsimp only at hF
     obtain rfl:=Aa hF
     exact A2 z z<|⟨_,z,AN hC11 _⟩
    replace hL1:=A8 hL1 hc6
    exact AF<|AU<|Ap<|Bg<|Ae z z<|Bn z z z<|Ad z z<|Ab<|Am (l':=[(0,u1),(3,(ptr b1 0)),(5,(I (w64 (x6+1))))]) ⟨z,z,z,Aj⟩<|⟨k1,A3 _,w64 (x6+1),z,((((Ao hB9).then hB10).then hB12).then hB13).below,hC11,hL1⟩
   replace hL1:=A8 hL1 hc5
   refine B1 (A9 (A9 (Bk ?_)))
   obtain rfl:=Aa hL1
   have hC12:=hC8.h0
   exact Am (l':=[]) Aj<|⟨z,z,(Ao hB9).below,hC12⟩
 rintro l3 _ w15 hs3 ⟨rfl,rfl,hB14,hC13⟩
 try dsimp only at hF
 refine AY hs3 ?_
 clear hs3
 refine Ac<|Ad z z<|Ab<|AL<|?_
 obtain rfl:=Aa hF
 exact A2 z z<|⟨_,z,AN hC13 _⟩
theorem c_S_AreRules {w0:World} (a1:(List Int)) (u1:Value) (g1:RO [] w0 u1 a1) (a2:(List (Int × Int × (List Int)))) (u2:Value) (g2:RO [] w0 u2 a2) (rr:Bool) (hF:S.AreRules a1 a2=some rr) :
 Calls Tryz.prog 102 [u1,u2].toArray w0 fun e w'=>∃v,e=.returned v∧Res w0 rr v w':=by
 refine Ax Tryz.func102 z z ?_
 have hC0:=A5 w0
 unfold S.AreRules at hF
 refine Ac<|Ad z z<|Ab<|A6<|Ac<|Ad z z<|Ab<|be hF fun r1 hr1 hF=>Bi (fun l w=>.inl ()=r1∧l=[(0,u1),(1,u2)]∧Below w0.heap.size w0 w∧Ctx [] w0 w []) ?_ ?_
 ·refine AJ<|wS (l':=[(0,u1),(1,u2),(5,(I 0))]) ⟨z,z,z,Aj⟩<|B2 (fun k l w=>∃x1:Int,l=[(0,u1),(1,u2),(5,(I x1))]∧Below w0.heap.size w0 w∧Ctx [] w0 w []∧S.AreRules_l1 a2 a1 k x1=some r1) FUEL ⟨0,z,(Al _ _),hC0,hr1⟩<|?_
  clear hr1
  rintro k1 _ w1 ⟨x1,rfl,hB1,hC1,hL1⟩
  cases k1 with
  | zero=>rw [S.AreRules_l1] at hL1; cases hL1
  | succ k1 =>
   rw [S.AreRules_l1] at hL1
   refine A6<|Ac<|Ae z z<|Ae z z<|Bc B5 g2 z z<|Bv z z z<|Ab<|AE z (fun hc1=>?_) (fun hc1=>?_)
   ·replace hL1:=A7 hL1 hc1
    refine AF<|Ap<|A6<|AJ<|Ac<|Ae z z<|Ae z z<|Ae z z<|be hL1 fun x2 hx1 hL1=>AH B5 ty131 g2 hx1 z z z fun b1 o1 h1=>AI ty131 h1 hC1.keep z z fun v1 h2=>?_
    obtain ⟨v2,rfl,h3⟩:=Dc h2
    refine be hL1 fun x3 hr2 hL1=>cb Tryz.call149 z z (c_S_IsRule a1 u1 (g1.now hC1.keep) x2 v2 (h3.now hC1.keep) x3 hr2) fun w2 hB2=>have hC2:=hC1.grow hB2;B3 z z<|Ab<|AE z (fun hc2=>?_) (fun hc2=>?_)
    ·replace hL1:=A7 hL1 hc2
     refine Ac<|Ad z z<|Ab<|AL<|Bd<|Av<|Av<|Bd<|Av<|Av<|?_
     obtain rfl:=Aa hL1
     dsimp only at hF
     obtain rfl:=Aa hF
     exact A2 z z<|⟨_,z,AN hC2 _⟩
    replace hL1:=A8 hL1 hc2
    exact AF<|AU<|Ap<|Bg<|Ae z z<|Bn z z z<|Ad z z<|Ab<|Am (l':=[(0,u1),(1,u2),(5,(I (w64 (x1+1))))]) ⟨z,z,z,Aj⟩<|⟨k1,A3 _,w64 (x1+1),z,((Ao hB1).then hB2).below,hC2,hL1⟩
   replace hL1:=A8 hL1 hc1
   refine B1 (A9 (A9 (Bk ?_)))
   obtain rfl:=Aa hL1
   exact Am (l':=[(0,u1),(1,u2)]) ⟨z,z,Aj⟩<|⟨z,z,(Ao hB1).below,hC1⟩
 rintro l2 _ w3 hs2 ⟨rfl,rfl,hB3,hC3⟩
 try dsimp only at hF
 refine AY hs2 ?_
 clear hs2
 refine be hF fun r2 hr3 hF=>BI (fun l w=>∃x4:Bool,x4=r2∧l=[(4,(.bool x4))]∧Below w3.heap.size w3 w∧Ctx [] w0 w []) ?_ ?_
 ·refine Bg<|Ae z z<|be hr3 fun x5 hr4 hr3=>cb BX z z (c_S_IsSchema a1 u1 (g1.now hC3.keep) x5 hr4) fun w5 hB5=>have hC5:=hC3.grow hB5;Ae z z<|Bz (fun hc3=>?_) (fun hc3=>?_)
  ·replace hr3:=A7 hr3 hc3
   refine Ah z z<|Ae z z<|Ah z z<|Bc B5 g2 z z<|Ah z z<|Cp z z z<|AW z z z<|Ad z z<|Ab<|?_
   obtain rfl:=Aa hr3
   exact Am (l':=[(4,(.bool (decide ((List.length a2:Int) ≤ 4))))]) ⟨z,Aj⟩<|⟨(decide ((List.length a2:Int) ≤ 4)),z,z,(Ao hB5).below,hC5⟩
  replace hr3:=A8 hr3 hc3
  refine gs z z z z<|gs z z z z<|gs z z z z<|AZ z z z<|Ad z z<|Ab<|?_
  obtain rfl:=Aa hr3
  exact Am (l':=[(4,(.bool false))]) ⟨z,Aj⟩<|⟨false,z,z,(Ao hB5).below,hC5⟩
 rintro _ w4 ⟨x4,rfl,rfl,hB4,hC4⟩
 try dsimp only at hF
 refine AL ?_
 obtain rfl:=Aa hF
 exact A2 z z<|⟨_,z,AN hC4 _⟩
theorem c_S_l14Fine {w0:World} (a1:(List Int)) (u1:Value) (g1:RO [] w0 u1 a1) (a2:(List (Int × (List Int) × Int × Int × Int))) (u2:Value) (g2:RO [] w0 u2 a2) (a3:(List (Int × Int × (List Int)))) (u3:Value) (g3:RO [] w0 u3 a3) (rr:Bool) (hF:S.l14Fine a1 a2 a3=some rr) :
 Calls Tryz.prog 90 [u1,u2,u3].toArray w0 fun e w'=>∃v,e=.returned v∧Res w0 rr v w':=by
 refine Ax Tryz.func90 z z ?_
 have hC0:=A5 w0
 unfold S.l14Fine at hF
 refine Ac<|Ad z z<|Ab<|be hF fun r1 hr1 hF=>BI (fun l w=>∃x1:Bool,x1=r1∧l=[(6,(.bool x1))]∧Below w0.heap.size w0 w∧Ctx [] w0 w []) ?_ ?_
 ·refine Bg<|Ae z z<|Ae z z<|be hr1 fun x2 hr2 hr1=>cb Cw z z (c_S_AreMethods a1 u1 (g1.now hC0.keep) a2 u2 (g2.now hC0.keep) x2 hr2) fun w2 hB2=>have hC2:=hC0.grow hB2;Ae z z<|Bz (fun hc1=>?_) (fun hc1=>?_)
  ·replace hr1:=A7 hr1 hc1
   refine Ah z z<|Ae z z<|Ah z z<|Ae z z<|be hr1 fun x3 hr3 hr1=>Ah z z<|cb Tryz.call102 z z (c_S_AreRules a1 u1 (g1.now hC2.keep) a3 u3 (g3.now hC2.keep) x3 hr3) fun w3 hB3=>have hC3:=hC2.grow hB3;AW z z z<|Ad z z<|Ab<|?_
   obtain rfl:=Aa hr1
   exact Am (l':=[(6,(.bool x3))]) ⟨z,Aj⟩<|⟨x3,z,z,((Ao hB2).then hB3).below,hC3⟩
  replace hr1:=A8 hr1 hc1
  refine gs z z z z<|gs z z z z<|gs z z z z<|AZ z z z<|Ad z z<|Ab<|?_
  obtain rfl:=Aa hr1
  exact Am (l':=[(6,(.bool false))]) ⟨z,Aj⟩<|⟨false,z,z,(Ao hB2).below,hC2⟩
 rintro _ w1 ⟨x1,rfl,rfl,hB1,hC1⟩
 try dsimp only at hF
 refine AL ?_
 obtain rfl:=Aa hF
 exact A2 z z<|⟨_,z,AN hC1 _⟩
theorem c_S_l13Apply {w0:World} (a1:(Int × Int × (List Int))) (u1:Value) (g1:RO [] w0 u1 a1.2.2) (a2:(Int × (List Int))) (u2:Value) (g2:RO [] w0 u2 a2.2) (rr:(Int × (List Int))) (hF:S.l13Apply a1 a2=some rr) :
 Calls Tryz.prog 144 [(.agg #[(I a1.1),(I a1.2.1),u1]),(.agg #[(I a2.1),u2])].toArray w0 fun e w'=>∃v,e=.returned v∧Res w0 rr v w':=by
 refine Ax Tryz.func144 z z ?_
 have hC0:=A5 w0
 unfold S.l13Apply at hF
 refine Ac<|Br (cs:=[(I a1.1),(I a1.2.1),u1]) hC0 z z z fun b1 w1 hC1 hB1 hN1=>Br (cs:=[(I a2.1),u2]) hC1 z z z fun b2 w2 hC2 hB2 hN2=>Bw hC2 zero88 z z fun b3 w3 hC3 hB3 hN3=>Ab<|Ac<|fd Bb Ay z z z z<|Aq hC3 2 z z AR z z<|BH (vs:=[(0,(I a1.2.1))]) z z z (built88_0 z)<|Bw hC3 zero88 z z fun b4 w4 hC4 hB4 hN4=>AA (cs':=[(I a1.2.1),(.slice none 0 0)]) (new:=[(I a1.2.1),(.slice none 0 0)]) hC4 0 z z (fac z<|fac z<|fa0) z AP z z fun w5 hC5 hKp1=>?_
 try dsimp only [List.set] at hC5
 have hk1:=AO ((((Ao hB1).then hB2).then hB3).then hB4) (AS (((Ao hB1).then hB2).then hB3).size hN4) hKp1
 have hk2:=AO (((Ao hB2).then hB3).then hB4) (AS ((Ao hB2).then hB3).size hN4) hKp1
 have hk3:=AO ((Ao hB3).then hB4) (AS (Ao hB3).size hN4) hKp1
 have hk4:=AO (Ao hB4) hN4 hKp1
 refine Ab<|A6<|Ac<|Ad z z<|Ab<|be hF fun r1 hr1 hF=>Bi (fun l w=>∃x4:Int,∃v2:Value,∃x5:(List Int),(x4,x5)=r1∧l=[(4,(ptr b3 0)),(5,(ptr b4 0))]∧Ctx [] w0 w [Af v2 (x5:(List Int)),Ag b4 [(I x4),v2],Ag b3 [(I 0),(.slice none 0 0)]]) ?_ ?_
 ·refine AJ ?_
  have hC27:=hC5.triv (nil_val (α:=Int))
  refine wS (l':=[(2,(ptr b1 0)),(3,(ptr b2 0)),(4,(ptr b3 0)),(5,(ptr b4 0)),(6,(I 0))]) ⟨z,z,z,z,z,Aj⟩<|B2 (fun k l w=>∃x1:Int,∃v1:Value,∃x2:(List Int),∃x3:Int,l=[(2,(ptr b1 0)),(3,(ptr b2 0)),(4,(ptr b3 0)),(5,(ptr b4 0)),(6,(I x3))]∧Ctx [] w0 w [Af v1 (x2:(List Int)),Ag b4 [(I x1),v1],Ag b3 [(I 0),(.slice none 0 0)],Ag b2 [(I a2.1),u2],Ag b1 [(I a1.1),(I a1.2.1),u1]]∧S.l13Apply_l1 a1 a2 k x1 x2 x3=some r1) FUEL ⟨a1.2.1,(.slice none 0 0),[],0,z,hC27,hr1⟩<|?_
  clear hr1
  rintro k1 _ w6 ⟨x1,v1,x2,x3,rfl,hC6,hL1⟩
  cases k1 with
  | zero=>rw [S.l13Apply_l1] at hL1; cases hL1
  | succ k1 =>
   rw [S.l13Apply_l1] at hL1
   refine A6<|Ac<|Ae z z<|fd Bb Az z z z z<|Aq hC6 4 z z AM z z<|Bc Ak g1 z z<|Bv z z z<|Ab<|AE z (fun hc1=>?_) (fun hc1=>?_)
   ·replace hL1:=A7 hL1 hc1
    refine AF<|Ap<|A6<|AJ<|W_drawn 15 z hmix fun w7 hB6=>have hC7:=hC6.grow hB6;tf 0 A4 Az z z z z z<|tf 2 A4 Az z z z z z<|tf 4 Bb Az z z z z z<|tm 6 z z z<|be hL1 fun x6 hx1 hL1=>be hL1 fun x7 hx2 hL1=>wAS (l':=[(2,(ptr b1 0)),(3,(ptr b2 0)),(4,(ptr b3 0)),(5,(ptr b4 0)),(6,(I x3)),(10,(I x3)),(11,(ptr b1 2)),(12,u1),(13,(I (List.length a1.2.2:Int))),(14,(.bool (decide (x3 < (List.length a1.2.2:Int))))),(17,(ptr b4 1)),(19,(ptr b2 1)),(21,(ptr b1 2)),(23,(I x3))]) ⟨z,z,z,z,z,z,z,z,z,z,z,z,z,z,Aj⟩<|Bq [⟨1,[],fun vs=>Ba v1,[]⟩,⟨3,[],fun vs=>Ba u2,[]⟩,⟨5,[],fun vs=>Ba u1,[]⟩,⟨7,[],fun vs=>BZ [] w0 x6,[]⟩,⟨8,[],fun vs=>Ba (I x6),[]⟩,⟨9,[],fun vs=>BZ [] w0 x7,[]⟩,⟨10,[],fun vs=>Ba (I x7),[]⟩,⟨11,[],fun vs=>CU ([x7]:(List Int)),[]⟩] [[],[],[],[5],[7],[3,8],[9],[10]] 3 z (by kernel_rfl) (by kernel_rfl) z ?_ ?_
    ·refine An z ?_ ?_
     ·intro w10 hB8
      refine At<|⟨_,z,?_⟩
      exact Aq (hC7.grow hB8) 1 z z AM z z<|Ab<|Aw (Al _ _) z z ⟨z,z⟩
     refine An z ?_ ?_
     ·intro w10 hB8
      refine At<|⟨_,z,?_⟩
      exact Aq (hC7.grow hB8) 3 z z AM z z<|Ab<|Aw (Al _ _) z z ⟨z,z⟩
     refine An z ?_ ?_
     ·intro w10 hB8
      refine At<|⟨_,z,?_⟩
      exact Aq (hC7.grow hB8) 4 z z AM z z<|Ab<|Aw (Al _ _) z z ⟨z,z⟩
     refine An z ?_ ?_
     ·intro w10 hB8
      refine AD z z z ?_
      rintro _ _ ⟨rfl,rfl⟩ _
      refine At<|⟨_,z,?_⟩
      exact AH Ak ty3 g1 hx1 z z z fun b5 o1 h1=>Ab<|Aw (Al _ _) z z ⟨z,_,_,z,h1⟩
     refine An z ?_ ?_
     ·intro w10 hB8
      refine AD z z z ?_
      rintro _ _ ⟨rfl,b5,o1,rfl,h1⟩ _
      refine At<|⟨_,z,?_⟩
      refine AI ty3 h1 (hC7.keep.then hB8) z z (fun v3 h2=>?_)
      obtain rfl:=B8 h2
      exact Ab<|Aw (Al _ _) z z ⟨z,z⟩
     refine An z ?_ ?_
     ·intro w10 hB8
      refine AD z z z ?_
      rintro _ _ ⟨rfl,rfl⟩ _
      refine AD z z z ?_
      rintro _ _ ⟨rfl,rfl⟩ _
      refine At<|⟨_,z,?_⟩
      exact AH Ak ty3 g2 hx2 z z z fun b6 o2 h3=>Ab<|Aw (Al _ _) z z ⟨z,_,_,z,h3⟩
     refine An z ?_ ?_
     ·intro w10 hB8
      refine AD z z z ?_
      rintro _ _ ⟨rfl,b6,o2,rfl,h3⟩ _
      refine At<|⟨_,z,?_⟩
      refine AI ty3 h3 (hC7.keep.then hB8) z z (fun v4 h4=>?_)
      obtain rfl:=B8 h4
      exact Ab<|Aw (Al _ _) z z ⟨z,z⟩
     refine An z ?_ ?_
     ·intro w10 hB8
      refine AD z z z ?_
      rintro _ _ ⟨rfl,rfl⟩ _
      refine At<|⟨_,z,?_⟩
      refine AC (vs:=[(I x7)]) (A5 w10) Ak ty3 z z z z (fac z<|fa0) z z (fun b7 w9 hC8 hB7=>?_)
      have hC9:=hC8.row0 (α:=Int)
      have hC10:=hC9.triv (Bx (x7))
      have hC11:=hC10.row1
      have hC12:=hC11.front 1 z
      dsimp only [List.eraseIdx,List.cons_append,List.nil_append,List.append_nil] at hC12
      have hC13:Ctx [] w10 w9 (Af (.slice (some ⟨b7,0,none⟩) 1 1) ([x7]:List Int)::[]):=hC12.rowOwn (by simp [maxLen])
      exact Ab<|Da hC13 z z (fun F h=>h)
     exact Bj
    intro w11 hB9
    refine Ar z z z ?_
    rintro _ _ ⟨rfl,rfl⟩
    refine Ar z z z ?_
    rintro _ _ ⟨rfl,rfl⟩
    refine Ar z z z ?_
    rintro _ _ ⟨rfl,rfl⟩
    refine Ar z z z ?_
    rintro _ _ ⟨rfl,b5,o1,rfl,h1⟩
    refine Ar z z z ?_
    rintro _ _ ⟨rfl,rfl⟩
    refine Ar z z z ?_
    rintro _ _ ⟨rfl,b6,o2,rfl,h3⟩
    refine Ar z z z ?_
    rintro _ _ ⟨rfl,rfl⟩
    refine Ar z z z fun v5 F1 hv1=>Bt fun hn1 hb1=>?_
    have hC14:=hC7.pushL hB9 (Bs:=[Af v5 ([x7]:(List Int))]) (Fs:=[F1]) ⟨F1,_,z,hv1,z⟩ (by simpa using hn1) (fun b h=>(hb1 b (by simpa using h)).1)
    refine be hL1 fun x8 hx3 hL1=>oe 12 z<|BF (α:=Int) hC14 1 z (hC14.ro 0 z) (A1 _ _) Ak ty3 z hx3 z z z fun v6 w12 hC15=>?_
    try dsimp only [List.set] at hC15
    refine Ab<|tf 13 A4 Az z z z z z<|oe 14 z<|B9 (cs':=[(I x1),v6]) hC15 2 z z (B0 (hC15.ro 1 z)) z Az z z fun w13 hC16 hKp2=>?_
    try dsimp only [List.set] at hC16
    exact Ab<|dn<|AU<|Ap<|Bg<|Ae z z<|Bn z z z<|Ad z z<|Ab<|have hC17:=hC16.f5;have hC18:=hC17.f5;have hC19:=hC18.f5;have hC20:=hC19.f5;have hC21:=hC20.f5;have hC22:=hC21.h5;Am (l':=[(2,(ptr b1 0)),(3,(ptr b2 0)),(4,(ptr b3 0)),(5,(ptr b4 0)),(6,(I (w64 (x3+1))))]) ⟨z,z,z,z,z,Aj⟩<|⟨k1,A3 _,x1,v6,x8,w64 (x3+1),z,hC22,hL1⟩
   replace hL1:=A8 hL1 hc1
   refine B1 (A9 (A9 (Bk ?_)))
   obtain rfl:=Aa hL1
   have hC23:=hC6.f2
   have hC24:=hC23.f2
   have hC25:=hC24.f2
   have hC26:=hC25.h3
   exact Am (l':=[(4,(ptr b3 0)),(5,(ptr b4 0))]) ⟨z,z,Aj⟩<|⟨x1,v1,x2,z,z,hC26⟩
 rintro l2 _ w14 hs2 ⟨x4,v2,x5,rfl,rfl,hC28⟩
 try dsimp only at hF
 refine AY hs2 ?_
 clear hs2
 refine Ac<|Au [(I x4),v2] hC28 1 z z z Bl AP z z<|AA (cs':=[(I x4),v2]) (new:=[(I x4),v2]) hC28 2 z z (fac z<|fac (B0 (hC28.ro 0 z))<|fa0) z AP z z fun w15 hC29 hKp3=>?_
 try dsimp only [List.set] at hC29
 refine Ab (AL ?_)
 obtain rfl:=Aa hF
 refine Cq z (rv_cell_agg (cs':=[(I x4),v2]) hC29 (i:=2) z z z Bl AP z) ?_
 have hC30:=Cc x4 v2 x5 hC29
 exact ⟨_,z,BY hC30 0 z⟩
theorem c_S_l13Missing {w0:World} (a1:(List (Int × Int × (List Int)))) (u1:Value) (g1:RO [] w0 u1 a1) (a2:(List (Int × (List Int)))) (u2:Value) (g2:RO [] w0 u2 a2) (rr:(List (Int × (List Int)))) (hF:S.l13Missing a1 a2=some rr) :
 Calls Tryz.prog 91 [u1,u2].toArray w0 fun e w'=>∃v,e=.returned v∧Res w0 rr v w':=by
 refine Ax Tryz.func91 z z ?_
 have hC0:=A5 w0
 unfold S.l13Missing at hF
 refine Ac<|Ad z z<|Ab<|Ac<|AC (vs:=[]) hC0 Ai ty88 z z z z (by simp) z z fun b1 w1 hC1 hB1=>?_
 have hC2:=hC1.row0 (α:=(Int × (List Int)))
 have hC3:=hC2.front 1 z
 dsimp only [List.eraseIdx,List.cons_append,List.nil_append,List.append_nil] at hC3
 have hC4:Ctx [] w0 w1 (Af (.slice (some ⟨b1,0,none⟩) 0 0) (([]:List (Int × (List Int))):List (Int × (List Int)))::[]):=hC3.rowOwn (by simp [maxLen])
 refine Ad z z<|Ab<|A6<|Ac<|Ad z z<|Ab<|be hF fun r1 hr1 hF=>Bi (fun l w=>∃v2:Value,∃x3:(List (Int × (List Int))),x3=r1∧l=[(5,v2)]∧Ctx [] w0 w [Af v2 (x3:(List (Int × (List Int))))]) ?_ ?_
 ·refine AJ<|wS (l':=[(0,u1),(1,u2),(5,(.slice (some ⟨b1,0,none⟩) 0 0)),(6,(I 0))]) ⟨z,z,z,z,Aj⟩<|B2 (fun k l w=>∃v1:Value,∃x1:(List (Int × (List Int))),∃x2:Int,l=[(0,u1),(1,u2),(5,v1),(6,(I x2))]∧Ctx [] w0 w [Af v1 (x1:(List (Int × (List Int))))]∧S.l13Missing_l1 a2 a1 k x1 x2=some r1) FUEL ⟨(.slice (some ⟨b1,0,none⟩) 0 0),([]:List (Int × (List Int))),0,z,hC4,hr1⟩<|?_
  clear hr1
  rintro k1 _ w2 ⟨v1,x1,x2,rfl,hC5,hL1⟩
  cases k1 with
  | zero=>rw [S.l13Missing_l1] at hL1; cases hL1
  | succ k1 =>
   rw [S.l13Missing_l1] at hL1
   refine A6<|Ac<|Ae z z<|Ae z z<|Bc Ai g2 z z<|Bv z z z<|Ab<|AE z (fun hc1=>?_) (fun hc1=>?_)
   ·replace hL1:=A7 hL1 hc1
    refine AF<|Ap<|A6<|AJ<|Ac<|Ad z z<|Ab<|be hL1 fun r2 hr2 hL1=>Bi (fun l w=>∃v4:Value,∃x6:(List (Int × (List Int))),x6=r2∧l=[(0,u1),(1,u2),(5,v4),(6,(I x2))]∧Ctx [] w0 w [Af v4 (x6:(List (Int × (List Int))))]) ?_ ?_
    ·refine AJ<|wS (l':=[(0,u1),(1,u2),(5,v1),(6,(I x2)),(7,(I 0))]) ⟨z,z,z,z,z,Aj⟩<|B2 (fun k l w=>∃v3:Value,∃x4:(List (Int × (List Int))),∃x5:Int,l=[(0,u1),(1,u2),(5,v3),(6,(I x2)),(7,(I x5))]∧Ctx [] w0 w [Af v3 (x4:(List (Int × (List Int))))]∧S.l13Missing_l2 a1 a2 x2 k x4 x5=some r2) FUEL ⟨v1,x1,0,z,hC5,hr2⟩<|?_
     clear hr2
     rintro k2 _ w3 ⟨v3,x4,x5,rfl,hC6,hL2⟩
     cases k2 with
     | zero=>rw [S.l13Missing_l2] at hL2; cases hL2
     | succ k2 =>
      rw [S.l13Missing_l2] at hL2
      refine A6<|Ac<|Ae z z<|Ae z z<|Bc B5 g1 z z<|Bv z z z<|Ab<|AE z (fun hc2=>?_) (fun hc2=>?_)
      ·replace hL2:=A7 hL2 hc2
       refine AF<|Ap<|A6<|AJ<|A6<|A6<|W_drawn 11 z hmix fun w4 hB4=>have hC7:=hC6.grow hB4;tm 0 z z z<|tm 1 z z z<|be hL2 fun x7 hx1 hL2=>tk 2 z z (BG B5 ty131 g1 hx1 z z)<|AH B5 ty131 g1 hx1 z z z fun b2 o1 h1=>Ab<|tf 3 Bb Ay z z z z z<|tm 5 z z z<|tm 6 z z z<|be hL2 fun x8 hx2 hL2=>tk 7 z z (BG Ai ty88 g2 hx2 z z)<|AH Ai ty88 g2 hx2 z z z fun b3 o2 h2=>Ab<|tf 8 A4 Ay z z z z z<|wAS (l':=[(0,u1),(1,u2),(5,v3),(6,(I x2)),(7,(I x5)),(16,(I x5)),(17,u1),(18,(I (List.length a1:Int))),(19,(.bool (decide (x5 < (List.length a1:Int))))),(22,u1),(23,(I x5)),(24,(ptr b2 o1)),(25,(ptr b2 (o1+0))),(27,u2),(28,(I x2)),(29,(ptr b3 o2)),(30,(ptr b3 (o2+0)))]) ⟨z,z,z,z,z,z,z,z,z,z,z,z,z,z,z,z,z,Aj⟩<|Bq [⟨4,[],fun vs=>Ba (I x7.1),[]⟩,⟨9,[],fun vs=>Ba (I x8.1),[]⟩] [[],[]] 1 z (by kernel_rfl) (by kernel_rfl) z ?_ ?_
       ·refine An z ?_ ?_
        ·intro w5 hB5
         refine At<|⟨_,z,?_⟩
         refine AI ty3 h1.fst (hC7.keep.then hB5) z z (fun v5 h3=>?_)
         obtain rfl:=B8 h3
         exact Ab<|Aw (Al _ _) z z ⟨z,z⟩
        refine An z ?_ ?_
        ·intro w5 hB5
         refine At<|⟨_,z,?_⟩
         refine AI ty3 h2.fst (hC7.keep.then hB5) z z (fun v6 h4=>?_)
         obtain rfl:=B8 h4
         exact Ab<|Aw (Al _ _) z z ⟨z,z⟩
        exact Bj
       intro w6 hB6
       refine Ar z z z ?_
       rintro _ _ ⟨rfl,rfl⟩
       refine Ar z z z ?_
       rintro _ _ ⟨rfl,rfl⟩
       refine Bt fun hn1 hb1=>have hC8:=hC7.grow hB6;tk 10 z z (De z z)<|Ch z z z<|Ab<|dn<|Ap<|AE z (fun hc3=>?_) (fun hc3=>?_)
       ·replace hL2:=A7 hL2 hc3
        exact B1<|A9<|Bk<|Ap<|Bg<|Ae z z<|Bn z z z<|Ad z z<|Ab<|Am (l':=[(0,u1),(1,u2),(5,v3),(6,(I x2)),(7,(I (w64 (x5+1))))]) ⟨z,z,z,z,z,Aj⟩<|⟨k2,A3 _,v3,x4,w64 (x5+1),z,hC8,hL2⟩
       replace hL2:=A8 hL2 hc3
       refine AF<|Ap<|A6<|W_drawn 11 z hmix fun w7 hB7=>have hC9:=hC8.grow hB7;tm 0 z z z<|tm 1 z z z<|be hL2 fun x9 hx3 hL2=>tk 2 z z (BG B5 ty131 g1 hx3 z z)<|AH B5 ty131 g1 hx3 z z z fun b4 o3 h5=>Ab<|tm 4 z z z<|tm 5 z z z<|be hL2 fun x10 hx4 hL2=>tk 6 z z (BG Ai ty88 g2 hx4 z z)<|AH Ai ty88 g2 hx4 z z z fun b5 o4 h6=>Ab<|be hL2 fun x11 hr3 hL2=>wAS (l':=[(0,u1),(1,u2),(5,v3),(6,(I x2)),(7,(I x5)),(16,(I x5)),(17,u1),(18,(I (List.length a1:Int))),(19,(.bool (decide (x5 < (List.length a1:Int))))),(22,u1),(23,(I x5)),(24,(ptr b2 o1)),(25,(ptr b2 (o1+0))),(26,(I x7.1)),(27,u2),(28,(I x2)),(29,(ptr b3 o2)),(30,(ptr b3 (o2+0))),(31,(I x8.1)),(32,(.bool (!decide (x7.1=x8.1)))),(33,u1),(34,(I x5)),(35,(ptr b4 o3)),(37,u2),(38,(I x2)),(39,(ptr b5 o4))]) ⟨z,z,z,z,z,z,z,z,z,z,z,z,z,z,z,z,z,z,z,z,z,z,z,z,z,z,Aj⟩<|Bq [⟨3,[],fun vs=>Ce [] w0 x9,[]⟩,⟨7,[],fun vs=>Ce [] w0 x10,[]⟩,⟨8,[],fun vs=>CU x11,[]⟩,⟨9,[],fun vs=>PW.box [(I 0),(.slice none 0 0)],[]⟩] [[],[],[3,7],[]] 1 z (by kernel_rfl) (by kernel_rfl) z ?_ ?_
       ·refine An z ?_ ?_
        ·intro w11 hB10
         refine At<|⟨_,z,?_⟩
         exact AI ty131 h5 (hC9.keep.then hB10) z z fun v9 h9=>Ab<|Aw (Al _ _) z z ⟨z,h9⟩
        refine An z ?_ ?_
        ·intro w11 hB10
         refine At<|⟨_,z,?_⟩
         exact AI ty88 h6 (hC9.keep.then hB10) z z fun v12 h12=>Ab<|Aw (Al _ _) z z ⟨z,h12⟩
        refine An z ?_ ?_
        ·intro w11 hB10
         refine AD z z z ?_
         rintro v9 _ ⟨rfl,h9⟩ _
         obtain ⟨v8,rfl,h8⟩:=Dc h9
         refine AD z z z ?_
         rintro v12 _ ⟨rfl,h12⟩ _
         obtain ⟨v11,rfl,h11⟩:=BD h12
         refine At<|⟨_,z,?_⟩
         refine AG Tryz.call144 z z (c_S_l13Apply x9 v8 (h8.now (hC9.keep.then hB10)) x10 v11 (h11.now (hC9.keep.then hB10)) x11 hr3) ?_
         rintro v13 w9 ⟨hB8,F1,hv1,hn2,hb2⟩
         exact Ab<|Db hB8 z z hv1 hn2 hb2 (Val.inh hv1)
        refine An z ?_ ?_
        ·intro w11 hB10
         refine At<|⟨_,z,?_⟩
         exact WL_alloc (A5 _) zero88 z z fun b6 w10 hC10 hB9=>Ab<|Da hC10 z z (fun F h=>⟨b6,z,h⟩)
        exact Bj
       intro w12 hB11
       refine Ar z z z ?_
       rintro v9 _ ⟨rfl,h9⟩
       obtain ⟨v8,rfl,h8⟩:=Dc h9
       refine Ar z z z ?_
       rintro v12 _ ⟨rfl,h12⟩
       obtain ⟨v11,rfl,h11⟩:=BD h12
       refine Ar z z z fun v13 F1 hv1=>Ar z z z<|?_
       rintro _ F2 ⟨b6,rfl,hv2⟩
       refine Bt ?_
       intro hn3 hb3
       have hC11:=hC9.pushL hB11 (Bs:=[Ag b6 [(I 0),(.slice none 0 0)],Af v13 (x11:(Int × (List Int)))]) (Fs:=[F2,F1]) ⟨F2,_,z,hv2,F1,_,z,hv1,z⟩ (by simpa using hn3) (fun b h=>(hb3 b (by simpa using h)).1)
       have hC12:=hC11.f1
       obtain ⟨v15,rfl,hC13⟩:=st88_own hC12
       refine oe 10 z<|AA (cs':=[(I x11.1),v15]) (new:=[(I x11.1),v15]) hC13 1 z z (fac z<|fac (B0 (hC13.ro 0 z))<|fa0) z AP z z fun w13 hC14 hKp1=>?_
       try dsimp only [List.set] at hC14
       refine Ab<|dn<|Ap<|Ac<|Ae z z<|Au [(I x11.1),v15] hC14 1 z z z Bl AP z z<|be hL2 fun x12 hr4 hL2=>cb CS z z (c_S_HasFact a2 u2 (g2.now hC14.keep) (x11.1,x11.2) v15 ((hC14.ro 0 z).now (A1 _ _)) x12 hr4) fun w14 hB12=>have hC15:=hC14.grow hB12;B3 z z<|Ab<|be hL2 fun r3 hr5 hL2=>Bi (fun l w=>∃v16:Value,∃x13:(List (Int × (List Int))),x13=r3∧l=[(0,u1),(1,u2),(5,v16),(6,(I x2)),(7,(I x5))]∧Below w14.heap.size w14 w∧Ctx [] w0 w [Af v16 (x13:(List (Int × (List Int))))]) ?_ ?_
       ·refine AE z (fun hc4=>?_) (fun hc4=>?_)
        ·replace hr5:=A7 hr5 hc4
         refine Bg<|Ae z z<|Au [(I x11.1),v15] hC15 1 z z z Bl AP z z<|be hr5 fun x14 hr6 hr5=>AG CT z z (c_S_AddFact x4 v3 ((hC15.ro 2 z).now (A1 _ _)) (x11.1,x11.2) v15 ((hC15.ro 0 z).now (A1 _ _)) x14 hr6)<|?_
         rintro v17 w16 ⟨hB14,F3,hv4,hn4,hb4⟩
         have hC17:=hC15.push hB14 (A:=Af v17 x14) hv4 hn4 hb4
         refine Ad z z<|Ab<|?_
         obtain rfl:=Aa hr5
         have hC18:=hC17.h1
         exact Am (l':=[(0,u1),(1,u2),(5,v17),(6,(I x2)),(7,(I x5))]) ⟨z,z,z,z,z,Aj⟩<|⟨v17,x14,z,z,(Ao hB14).below,hC18⟩
        replace hr5:=A8 hr5 hc4
        refine AF ?_
        obtain rfl:=Aa hr5
        have hC19:=hC15.f2
        have hC20:=hC19.h1
        exact Am (l':=[(0,u1),(1,u2),(5,v3),(6,(I x2)),(7,(I x5))]) ⟨z,z,z,z,z,Aj⟩<|⟨v3,x4,z,z,(Al _ _),hC20⟩
       rintro l3 _ w15 hs3 ⟨v16,x13,rfl,rfl,hB13,hC16⟩
       try dsimp only at hL2
       refine AU<|AY hs3<|?_
       clear hs3
       exact Bg<|Ae z z<|Bn z z z<|Ad z z<|Ab<|Am (l':=[(0,u1),(1,u2),(5,v16),(6,(I x2)),(7,(I (w64 (x5+1))))]) ⟨z,z,z,z,z,Aj⟩<|⟨k2,A3 _,v16,x13,w64 (x5+1),z,hC16,hL2⟩
      replace hL2:=A8 hL2 hc2
      refine B1 (A9 (A9 (Bk ?_)))
      obtain rfl:=Aa hL2
      exact Am (l':=[(0,u1),(1,u2),(5,v3),(6,(I x2))]) ⟨z,z,z,z,Aj⟩<|⟨v3,x4,z,z,hC6⟩
    rintro l4 _ w17 hs4 ⟨v4,x6,rfl,rfl,hC21⟩
    try dsimp only at hL1
    refine AU<|AY hs4<|?_
    clear hs4
    exact Bg<|Ae z z<|Bn z z z<|Ad z z<|Ab<|Am (l':=[(0,u1),(1,u2),(5,v4),(6,(I (w64 (x2+1))))]) ⟨z,z,z,z,Aj⟩<|⟨k1,A3 _,v4,x6,w64 (x2+1),z,hC21,hL1⟩
   replace hL1:=A8 hL1 hc1
   refine B1 (A9 (A9 (Bk ?_)))
   obtain rfl:=Aa hL1
   exact Am (l':=[(5,v1)]) ⟨z,Aj⟩<|⟨v1,x1,z,z,hC5⟩
 rintro l5 _ w18 hs5 ⟨v2,x3,rfl,rfl,hC22⟩
 try dsimp only at hF
 refine AY hs5 ?_
 clear hs5
 refine Ac<|Ae z z<|Ad z z<|Ab<|AL<|?_
 obtain rfl:=Aa hF
 exact A2 z z<|⟨_,z,BY hC22 0 z⟩
theorem c_S_BrokenRules {w0:World} (a1:(List Int)) (u1:Value) (g1:RO [] w0 u1 a1) (a2:(List (Int × (List Int) × Int × Int × Int))) (u2:Value) (g2:RO [] w0 u2 a2) (a3:(List (Int × Int × (List Int)))) (u3:Value) (g3:RO [] w0 u3 a3) (a4:(List ((Int × (List Int)) × (List (Int × (List Int)))))) (u4:Value) (g4:RO [] w0 u4 a4) (rr:(List (Int × (List Int)))) (hF:S.BrokenRules a1 a2 a3 a4=some rr) :
 Calls Tryz.prog 26 [u1,u2,u3,u4].toArray w0 fun e w'=>∃v,e=.returned v∧Res w0 rr v w':=by
 refine Ax Tryz.func26 z z ?_
 have hC0:=A5 w0
 unfold S.BrokenRules at hF
 refine Ac<|Ad z z<|Ab<|Ac<|AC (vs:=[]) hC0 Ai ty88 z z z z (by simp) z z fun b1 w1 hC1 hB1=>?_
 have hC2:=hC1.row0 (α:=(Int × (List Int)))
 have hC3:=hC2.front 1 z
 dsimp only [List.eraseIdx,List.cons_append,List.nil_append,List.append_nil] at hC3
 have hC4:Ctx [] w0 w1 (Af (.slice (some ⟨b1,0,none⟩) 0 0) (([]:List (Int × (List Int))):List (Int × (List Int)))::[]):=hC3.rowOwn (by simp [maxLen])
 refine Ad z z<|Ab<|A6<|be hF fun r1 hr1 hF=>BI (fun l w=>∃x1:Bool,x1=r1∧l=[(1,u2),(2,u3),(3,u4),(9,(.slice (some ⟨b1,0,none⟩) 0 0)),(27,(.bool x1))]∧Below w1.heap.size w1 w∧Ctx [] w0 w [Af (.slice (some ⟨b1,0,none⟩) 0 0) (([]:List (Int × (List Int))):(List (Int × (List Int))))]) ?_ ?_
 ·refine Bg<|Ae z z<|Ae z z<|Ae z z<|be hr1 fun x2 hr2 hr1=>cb Tryz.call90 z z (c_S_l14Fine a1 u1 (g1.now hC4.keep) a2 u2 (g2.now hC4.keep) a3 u3 (g3.now hC4.keep) x2 hr2) fun w3 hB3=>have hC6:=hC4.grow hB3;B3 z z<|Ae z z<|Bz (fun hc1=>?_) (fun hc1=>?_)
  ·replace hr1:=A7 hr1 hc1
   refine gs z z z z<|gs z z z z<|gs z z z z<|gs z z z z<|gs z z z z<|AW z z z<|Ab<|?_
   obtain rfl:=Aa hr1
   exact Am (l':=[(1,u2),(2,u3),(3,u4),(9,(.slice (some ⟨b1,0,none⟩) 0 0)),(27,(.bool true))]) ⟨z,z,z,z,z,Aj⟩<|⟨true,z,z,(Ao hB3).below,hC6⟩
  replace hr1:=A8 hr1 hc1
  refine Ah z z<|Ae z z<|Ah z z<|Ae z z<|Ah z z<|Ae z z<|be hr1 fun x3 hr3 hr1=>Ah z z<|cb Tryz.call17 z z (c_S_IsConsistent a1 u1 (g1.now hC6.keep) a2 u2 (g2.now hC6.keep) a4 u4 (g4.now hC6.keep) x3 hr3) fun w4 hB4=>have hC7:=hC6.grow hB4;Ah z z<|B3 z z<|AZ z z z<|Ab<|?_
  obtain rfl:=Aa hr1
  exact Am (l':=[(1,u2),(2,u3),(3,u4),(9,(.slice (some ⟨b1,0,none⟩) 0 0)),(27,(.bool (!x3)))]) ⟨z,z,z,z,z,Aj⟩<|⟨(!x3),z,z,((Ao hB3).then hB4).below,hC7⟩
 rintro _ w2 ⟨x1,rfl,rfl,hB2,hC5⟩
 try dsimp only at hF
 refine AE z (fun hc2=>?_) (fun hc2=>?_)
 ·replace hF:=A7 hF hc2
  refine Ac<|Ae z z<|Ad z z<|Ab<|AL<|Av<|?_
  obtain rfl:=Aa hF
  exact A2 z z<|⟨_,z,BY hC5 0 z⟩
 replace hF:=A8 hF hc2
 refine AF<|Ap<|Ac<|Ae z z<|Ae z z<|be hF fun x4 hr4 hF=>AG C9 z z (c_S_UnionOf a4 u4 (g4.now hC5.keep) x4 hr4)<|?_
 rintro v1 w5 ⟨hB5,F1,hv3,hn1,hb1⟩
 have hC8:=hC5.push hB5 (A:=Af v1 x4) hv3 hn1 hb1
 refine be hF fun x5 hr5 hF=>AG Tryz.call91 z z (c_S_l13Missing a3 u3 (g3.now hC8.keep) x4 v1 ((hC8.ro 0 z).now (A1 _ _)) x5 hr5)<|?_
 rintro v2 w6 ⟨hB6,F2,hv4,hn2,hb2⟩
 have hC9:=hC8.push hB6 (A:=Af v2 x5) hv4 hn2 hb2
 refine Ad z z<|Ab<|A6<|Ac<|Ad z z<|Ab<|be hF fun r2 hr6 hF=>have hC10:=hC9.ownRest;Bi (fun l w=>∃v4:Value,∃x8:(List (Int × (List Int))),x8=r2∧l=[(9,v4)]∧Ctx [] w0 w [Af v4 (x8:(List (Int × (List Int))))]) ?_ ?_
 ·refine AJ<|have hC55:=hC10.f2;have hC56:=hC55.f1;have hC57:=hC56.h2;wS (l':=[(1,u2),(3,u4),(9,(.slice (some ⟨b1,0,none⟩) 0 0)),(10,v2),(11,(I 0))]) ⟨z,z,z,z,z,Aj⟩<|B2 (fun k l w=>∃v3:Value,∃x6:(List (Int × (List Int))),∃x7:Int,l=[(1,u2),(3,u4),(9,v3),(10,v2),(11,(I x7))]∧Ctx [] w0 w [Item.rest v2 (x5:(List (Int × (List Int)))) (Int.toNat x7),Af v3 (x6:(List (Int × (List Int))))]∧S.BrokenRules_l1 x5 a4 a2 k x6 x7=some r2) FUEL ⟨(.slice (some ⟨b1,0,none⟩) 0 0),([]:List (Int × (List Int))),0,z,hC57,hr6⟩<|?_
  clear hr6
  rintro k1 _ w7 ⟨v3,x6,x7,rfl,hC11,hL1⟩
  cases k1 with
  | zero=>rw [S.BrokenRules_l1] at hL1; cases hL1
  | succ k1 =>
   rw [S.BrokenRules_l1] at hL1
   refine A6<|Ac<|Ae z z<|Ae z z<|WL_len_rest hC11 0 z Ai z z<|Bv z z z<|Ab<|AE z (fun hc3=>?_) (fun hc3=>?_)
   ·replace hL1:=A7 hL1 hc3
    refine AF<|Ap<|A6<|AJ<|be hL1 fun x9 hx1 hL1=>?_
    obtain ⟨b2,cs1,hE1,hC12⟩:=hC11.openRest hx1
    obtain ⟨v5,he1,hC13⟩:=st88_own (hC12.cellsOwn z)
    obtain rfl:=cells_of_agg he1
    refine Ac<|Ad z z<|Ab<|A6<|Ac<|Ad z z<|Ab<|be hL1 fun r3 hr7 hL1=>Bi (fun l w=>∃x12:Bool,x12=r3∧l=[(1,u2),(3,u4),(9,v3),(10,v2),(11,(I x7)),(12,(.bool x12))]∧Ctx [] w0 w [Af v5 (x9.2:(List Int)),CQ v2 (x5:(List (Int × (List Int)))) (Int.toNat x7) [(I x9.1),v5],Af v3 (x6:(List (Int × (List Int))))]) ?_ ?_
    ·refine AJ<|wS (l':=[(1,u2),(3,u4),(9,v3),(10,v2),(11,(I x7)),(12,(.bool false)),(13,(I 0))]) ⟨z,z,z,z,z,z,z,Aj⟩<|B2 (fun k l w=>∃x10:Bool,∃x11:Int,l=[(1,u2),(3,u4),(9,v3),(10,v2),(11,(I x7)),(12,(.bool x10)),(13,(I x11))]∧Ctx [] w0 w [Af v5 (x9.2:(List Int)),CQ v2 (x5:(List (Int × (List Int)))) (Int.toNat x7) [(I x9.1),v5],Af v3 (x6:(List (Int × (List Int))))]∧S.BrokenRules_l2 a4 a2 x9 k x10 x11=some r3) FUEL ⟨false,0,z,hC13,hr7⟩<|?_
     clear hr7
     rintro k2 _ w9 ⟨x10,x11,rfl,hC14,hL2⟩
     cases k2 with
     | zero=>rw [S.BrokenRules_l2] at hL2; cases hL2
     | succ k2 =>
      rw [S.BrokenRules_l2] at hL2
      refine A6<|Ac<|Ae z z<|Ae z z<|Bc A0 g4 z z<|Bv z z z<|Ab<|AE z (fun hc4=>?_) (fun hc4=>?_)
      ·replace hL2:=A7 hL2 hc4
       refine AF<|Ap<|A6<|AJ<|Ac<|Ae z z<|Ae z z<|Ae z z<|be hL2 fun x13 hx2 hL2=>AH A0 ty46 g4 hx2 z z z fun b3 o1 h1=>fd AK AV z z z z<|fd AQ Ay z z z z<|AI ty3 h1.fst.fst hC14.keep z z fun v6 h2=>?_
       obtain rfl:=B8 h2
       refine be hL2 fun x14 hx3 hL2=>AH Be ty93 g2 hx3 z z z fun b4 o2 h3=>AI ty93 h3 hC14.keep z z fun v7 h4=>?_
       obtain ⟨v8,rfl,h5⟩:=CE h4
       refine Bw hC14 zero93 z z fun b5 w10 hC15 hB9 hN1=>AA (cs':=[(I x14.1),v8,(I x14.2.2.1),(I x14.2.2.2.1),(I x14.2.2.2.2)]) (new:=[(I x14.1),v8,(I x14.2.2.1),(I x14.2.2.2.1),(I x14.2.2.2.2)]) hC15 0 z z (fac z<|fac (B0 h5)<|fac z<|fac z<|fac z<|fa0) z B6 z z fun w11 hC16 hKp1=>?_
       try dsimp only [List.set] at hC16
       have hk1:=AO (Ao hB9) hN1 hKp1
       refine Ab<|be hL2 fun r4 hr8 hL2=>Bi (fun l w=>∃x15:Bool,x15=r4∧l=[(1,u2),(3,u4),(9,v3),(10,v2),(11,(I x7)),(12,(.bool x15)),(13,(I x11))]∧Below w11.heap.size w11 w∧Ctx [] w0 w [Af v5 (x9.2:(List Int)),CQ v2 (x5:(List (Int × (List Int)))) (Int.toNat x7) [(I x9.1),v5],Af v3 (x6:(List (Int × (List Int))))]) ?_ ?_
       ·refine W_drawn 32 z hmix fun w13 hB11=>have hC18:=hC16.grow hB11;tm 0 z z z<|tm 1 z z z<|BC (fun hc5=>?_) (fun hc5=>?_)
        ·replace hr8:=A7 hr8 hc5
         refine sk 2 z z z z z<|sk 3 z z z z z<|sk 4 z z z z z<|sk 5 z z z z z<|sk 6 z z z z z<|sk 7 z z z z z<|sk 8 z z z z z<|sk 9 z z z z z<|sk 10 z z z z z<|sk 11 z z z z z<|sk 12 z z z z z<|sk 13 z z z z z<|sk 14 z z z z z<|sk 15 z z z z z<|sk 16 z z z z z<|sk 17 z z z z z<|sk 18 z z z z z<|sk 19 z z z z z<|sk 20 z z z z z<|sk 21 z z z z z<|sk 22 z z z z z<|sk 23 z z z z z<|sk 24 z z z z z<|sk 25 z z z z z<|sk 26 z z z z z<|sk 27 z z z z z<|sk 28 z z z z z<|sk 29 z z z z z<|tp 30 z z z z<|ta 31 z z z<|dn<|?_
         obtain rfl:=Aa hr8
         have hC19:=hC18.f3
         have hC20:=hC19.f3
         have hC21:=hC20.f3
         have hC22:=hC21.h3
         exact Am (l':=[(1,u2),(3,u4),(9,v3),(10,v2),(11,(I x7)),(12,(.bool true)),(13,(I x11))]) ⟨z,z,z,z,z,z,z,Aj⟩<|⟨true,z,z,(Ao hB11).below,hC22⟩
        replace hr8:=A8 hr8 hc5
        refine tn 3 z z z z z<|tn 4 z z z z z<|be hr8 fun x16 hx4 hr8=>tg 5 z z z z (BG A0 ty46 g4 hx4 z z)<|Ah z z<|AH A0 ty46 g4 hx4 z z z fun b6 o3 h6=>Ab<|tg 6 z z z z (BB AK z z (fun w=>⟨_,AV w⟩) z)<|Ah z z<|fd AK AV z z z z<|Ab<|tg 7 z z z z (BB AQ z z (fun w=>⟨_,Az w⟩) z)<|Ah z z<|fd AQ Az z z z z<|Ab<|tn 9 z z z z z<|tn 10 z z z z z<|tg 11 z z z z (fl_index_rhole hC18 2 z Ai ty88 hE1 hx1 z z)<|Ah z z<|WL_index_rhole hC18 2 z Ai ty88 hE1 hx1 z z z<|Ab<|wAS (l':=[(1,u2),(3,u4),(9,v3),(10,v2),(11,(I x7)),(12,(.bool x10)),(13,(I x11)),(14,(ptr b5 0)),(39,(I x11)),(40,u4),(41,(I (List.length a4:Int))),(42,(.bool (decide (x11 < (List.length a4:Int))))),(45,u2),(46,u4),(47,(I x11)),(48,(ptr b3 o1)),(49,(ptr b3 (o1+0))),(50,(ptr b3 (o1+0+0))),(51,(I x13.1.1)),(52,(ptr b4 o2)),(53,(.agg #[(I x14.1),v8,(I x14.2.2.1),(I x14.2.2.2.1),(I x14.2.2.2.2)])),(54,(.bool x10)),(55,(.bool false)),(57,u4),(58,(I x11)),(59,(ptr b6 o3)),(60,(ptr b6 (o3+0))),(61,(ptr b6 (o3+0+1))),(63,v2),(64,(I x7)),(65,(ptr b2 (Int.toNat x7 * Rep.sz (Int × (List Int)))))]) ⟨z,z,z,z,z,z,z,z,z,z,z,z,z,z,z,z,z,z,z,z,z,z,z,z,z,z,z,z,z,z,z,Aj⟩<|Bq [⟨2,[],fun vs=>Ba (.agg #[(I x14.1),v8,(I x14.2.2.1),(I x14.2.2.2.1),(I x14.2.2.2.2)]),[]⟩,⟨8,[],fun vs=>Ce [] w0 x16.1.2,[]⟩,⟨12,[],fun vs=>Ba (.agg #[(I x9.1),v5]),[]⟩] [[],[],[]] 19 z (by kernel_rfl) (by kernel_rfl) z ?_ ?_
        ·refine An z ?_ ?_
         ·intro w14 hB12
          refine At<|⟨_,z,?_⟩
          exact Ah z z<|Au [(I x14.1),v8,(I x14.2.2.1),(I x14.2.2.2.1),(I x14.2.2.2.2)] (hC18.grow hB12) 0 z z z BQ B6 z z<|Ab<|Aw (Al _ _) z z ⟨z,z⟩
         refine An z ?_ ?_
         ·intro w14 hB12
          refine At<|⟨_,z,?_⟩
          exact Ah z z<|AI ty24 h6.fst.snd (hC18.keep.then hB12) z z fun v9 h7=>Ab<|Aw (Al _ _) z z ⟨z,h7⟩
         refine An z ?_ ?_
         ·intro w14 hB12
          refine At<|⟨_,z,?_⟩
          exact Ah z z<|WL_load_rhole_agg (fo:=0) (cs':=[(I x9.1),v5]) (hC18.grow hB12) 2 z hE1 z z z Bl AP z z<|Ab<|Aw (Al _ _) z z ⟨z,z⟩
         exact Bj
        intro w15 hB13
        refine Ar z z z ?_
        rintro _ _ ⟨rfl,rfl⟩
        refine Ar z z z ?_
        rintro v9 _ ⟨rfl,h7⟩
        refine Ar z z z ?_
        rintro _ _ ⟨rfl,rfl⟩
        refine Bt fun hn3 hb3=>have hC23:=hC18.grow hB13;be hr8 fun x17 hr9 hr8=>oe 13 z<|Ah z z<|cb CV z z (c_S_l5Fits (x14.1,x14.2.1,x14.2.2.1,x14.2.2.2.1,x14.2.2.2.2) v8 (h5.now hC23.keep) x16.1.2 v9 (h7.now hC23.keep) (x9.1,x9.2) v5 ((hC23.ro 1 z).now (A1 _ _)) x17 hr9) fun w16 hB14=>have hC24:=hC23.grow hB14;Ab<|tn 14 z z z z z<|BC (fun hc6=>?_) (fun hc6=>?_)
        ·replace hr8:=A7 hr8 hc6
         refine tg 15 z z z z (BB AB z z (fun w=>⟨_,Ay w⟩) z)<|Ah z z<|fd AB Ay z z z z<|Ab<|oe 16 z<|Ah z z<|Aq hC24 0 z z AR z z<|Ab<|tg 17 z z z z (CR z z)<|Ah z z<|BM z z z<|Ab<|tn 18 z z z z z<|BC (fun hc7=>?_) (fun hc7=>?_)
         ·replace hr8:=A7 hr8 hc7
          refine sk 19 z z z z z<|sk 20 z z z z z<|sk 21 z z z z z<|sk 22 z z z z z<|sk 23 z z z z z<|sk 24 z z z z z<|sk 25 z z z z z<|sk 26 z z z z z<|sk 27 z z z z z<|tg 28 z z z z (Cg z z)<|Ah z z<|AW z z z<|Ab<|tg 29 z z z z (Cg z z)<|Ah z z<|AW z z z<|Ab<|tq 30 z z z z<|ta 31 z z z<|dn<|?_
          obtain rfl:=Aa hr8
          have hC25:=hC24.f3
          have hC26:=hC25.f3
          have hC27:=hC26.f3
          have hC28:=hC27.h3
          exact Am (l':=[(1,u2),(3,u4),(9,v3),(10,v2),(11,(I x7)),(12,(.bool true)),(13,(I x11))]) ⟨z,z,z,z,z,z,z,Aj⟩<|⟨true,z,z,(((Ao hB11).then hB13).then hB14).below,hC28⟩
         replace hr8:=A8 hr8 hc7
         refine tn 19 z z z z z<|tn 20 z z z z z<|be hr8 fun x18 hx5 hr8=>tg 21 z z z z (BG A0 ty46 g4 hx5 z z)<|Ah z z<|AH A0 ty46 g4 hx5 z z z fun b7 o4 h8=>Ab<|tg 22 z z z z (BB AK z z (fun w=>⟨_,Bp w⟩) z)<|Ah z z<|fd AK Bp z z z z<|Ab<|tg 25 z z z z (BB AB z z (fun w=>⟨_,Ay w⟩) z)<|Ah z z<|fd AB Ay z z z z<|Ab<|wAS (l':=[(1,u2),(3,u4),(9,v3),(10,v2),(11,(I x7)),(12,(.bool x10)),(13,(I x11)),(14,(ptr b5 0)),(39,(I x11)),(40,u4),(41,(I (List.length a4:Int))),(42,(.bool (decide (x11 < (List.length a4:Int))))),(45,u2),(46,u4),(47,(I x11)),(48,(ptr b3 o1)),(49,(ptr b3 (o1+0))),(50,(ptr b3 (o1+0+0))),(51,(I x13.1.1)),(52,(ptr b4 o2)),(53,(.agg #[(I x14.1),v8,(I x14.2.2.1),(I x14.2.2.2.1),(I x14.2.2.2.2)])),(54,(.bool x10)),(55,(.bool false)),(56,(.agg #[(I x14.1),v8,(I x14.2.2.1),(I x14.2.2.2.1),(I x14.2.2.2.2)])),(57,u4),(58,(I x11)),(59,(ptr b6 o3)),(60,(ptr b6 (o3+0))),(61,(ptr b6 (o3+0+1))),(62,v9),(63,v2),(64,(I x7)),(65,(ptr b2 (Int.toNat x7 * Rep.sz (Int × (List Int))))),(66,(.agg #[(I x9.1),v5])),(67,(.bool x17)),(68,(.bool true)),(69,(ptr b5 2)),(70,(I x14.2.2.1)),(71,(.bool (decide (x14.2.2.1=0)))),(72,(.bool false)),(73,u4),(74,(I x11)),(75,(ptr b7 o4)),(76,(ptr b7 (o4+2))),(79,(ptr b5 2))]) ⟨z,z,z,z,z,z,z,z,z,z,z,z,z,z,z,z,z,z,z,z,z,z,z,z,z,z,z,z,z,z,z,z,z,z,z,z,z,z,z,z,z,z,z,z,z,Aj⟩<|Bq [⟨23,[],fun vs=>Ce [] w0 x18.2,[]⟩,⟨24,[],fun vs=>Ba (I (List.length x18.2:Int)),[]⟩,⟨26,[],fun vs=>Ba (I x14.2.2.1),[]⟩] [[],[23],[]] 5 z (by kernel_rfl) (by kernel_rfl) z ?_ ?_
         ·refine An z ?_ ?_
          ·intro w17 hB15
           refine At<|⟨_,z,?_⟩
           exact Ah z z<|AI ty31 h8.snd (hC24.keep.then hB15) z z fun v10 h9=>Ab<|Aw (Al _ _) z z ⟨z,h9⟩
          refine An z ?_ ?_
          ·intro w17 hB15
           refine AD z z z ?_
           rintro v10 _ ⟨rfl,h9⟩ _
           refine At<|⟨_,z,?_⟩
           exact Ah z z<|Bc Ai h9 z z<|Ab<|Aw (Al _ _) z z ⟨z,z⟩
          refine An z ?_ ?_
          ·intro w17 hB15
           refine At<|⟨_,z,?_⟩
           exact Ah z z<|Aq (hC24.grow hB15) 0 z z AR z z<|Ab<|Aw (Al _ _) z z ⟨z,z⟩
          exact Bj
         intro w18 hB16
         refine Ar z z z ?_
         rintro v10 _ ⟨rfl,h9⟩
         refine Ar z z z ?_
         rintro _ _ ⟨rfl,rfl⟩
         refine Ar z z z ?_
         rintro _ _ ⟨rfl,rfl⟩
         refine Bt fun hn4 hb4=>have hC29:=hC24.grow hB16;tg 27 z z z z (fl_lss z z)<|Ah z z<|Bv z z z<|Ab<|tg 28 z z z z (Ci z z)<|Ah z z<|AZ z z z<|Ab<|tg 29 z z z z (Cg z z)<|Ah z z<|AW z z z<|Ab<|tq 30 z z z z<|ta 31 z z z<|dn<|?_
         obtain rfl:=Aa hr8
         have hC30:=hC29.f3
         have hC31:=hC30.f3
         have hC32:=hC31.f3
         have hC33:=hC32.h3
         exact Am (l':=[(1,u2),(3,u4),(9,v3),(10,v2),(11,(I x7)),(12,(.bool (decide ((List.length x18.2:Int) < x14.2.2.1)))),(13,(I x11))]) ⟨z,z,z,z,z,z,z,Aj⟩<|⟨(decide ((List.length x18.2:Int) < x14.2.2.1)),z,z,((((Ao hB11).then hB13).then hB14).then hB16).below,hC33⟩
        replace hr8:=A8 hr8 hc6
        refine sk 15 z z z z z<|sk 16 z z z z z<|sk 17 z z z z z<|sk 18 z z z z z<|sk 19 z z z z z<|sk 20 z z z z z<|sk 21 z z z z z<|sk 22 z z z z z<|sk 23 z z z z z<|sk 24 z z z z z<|sk 25 z z z z z<|sk 26 z z z z z<|sk 27 z z z z z<|sk 28 z z z z z<|tg 29 z z z z (Ci z z)<|Ah z z<|AZ z z z<|Ab<|tq 30 z z z z<|ta 31 z z z<|dn<|?_
        obtain rfl:=Aa hr8
        have hC34:=hC24.f3
        have hC35:=hC34.f3
        have hC36:=hC35.f3
        have hC37:=hC36.h3
        exact Am (l':=[(1,u2),(3,u4),(9,v3),(10,v2),(11,(I x7)),(12,(.bool false)),(13,(I x11))]) ⟨z,z,z,z,z,z,z,Aj⟩<|⟨false,z,z,(((Ao hB11).then hB13).then hB14).below,hC37⟩
       rintro l4 _ w12 hs4 ⟨x15,rfl,rfl,hB10,hC17⟩
       try dsimp only at hL2
       refine AU<|AY hs4<|?_
       clear hs4
       exact Bg<|Ae z z<|Bn z z z<|Ad z z<|Ab<|Am (l':=[(1,u2),(3,u4),(9,v3),(10,v2),(11,(I x7)),(12,(.bool x15)),(13,(I (w64 (x11+1))))]) ⟨z,z,z,z,z,z,z,Aj⟩<|⟨k2,A3 _,x15,w64 (x11+1),z,hC17,hL2⟩
      replace hL2:=A8 hL2 hc4
      refine B1 (A9 (A9 (Bk ?_)))
      obtain rfl:=Aa hL2
      exact Am (l':=[(1,u2),(3,u4),(9,v3),(10,v2),(11,(I x7)),(12,(.bool x10))]) ⟨z,z,z,z,z,z,Aj⟩<|⟨x10,z,z,hC14⟩
    rintro l5 _ w19 hs5 ⟨x12,rfl,rfl,hC38⟩
    try dsimp only at hL1
    refine AY hs5 ?_
    clear hs5
    refine Ac<|Ae z z<|Ab<|be hL1 fun r5 hr10 hL1=>Bi (fun l w=>∃v11:Value,∃x19:(List (Int × (List Int))),x19=r5∧l=[(1,u2),(3,u4),(9,v11),(10,v2),(11,(I x7))]∧Ctx [] w0 w [CQ v2 (x5:(List (Int × (List Int)))) (Int.toNat x7) [(I x9.1),v5],Af v11 (x19:(List (Int × (List Int))))]) ?_ ?_
    ·refine AE z (fun hc8=>?_) (fun hc8=>?_)
     ·replace hr10:=A7 hr10 hc8
      refine Bg<|Ae z z<|Ae z z<|Ae z z<|WL_index_rhole hC38 1 z Ai ty88 hE1 hx1 z z z<|WL_load_rhole_agg (fo:=0) (cs':=[(I x9.1),v5]) hC38 1 z hE1 z z z Bl AP z z<|AC (vs:=[(.agg #[(I x9.1),v5])]) hC38 Ai ty88 z z z z (fac z<|fa0) z z fun b8 w21 hC40 hB19=>?_
      have hC41:=hC40.row0 (α:=(Int × (List Int)))
      have hC43:=hC41.f2
      have hC42:=Cc x9.1 v5 x9.2 hC43
      have hC44:=hC42.row1
      have hC45:=hC44.front 1 z
      dsimp only [List.eraseIdx,List.cons_append,List.nil_append,List.append_nil] at hC45
      have hC46:Ctx [] w0 w21 (Af (.slice (some ⟨b8,0,none⟩) 1 1) ([(x9.1,x9.2)]:List (Int × (List Int)))::[CQ v2 (x5:(List (Int × (List Int)))) (Int.toNat x7) [(I x9.1),v5],Af v3 (x6:(List (Int × (List Int))))]):=hC45.rowOwn (by simp [maxLen])
      refine be hr10 fun x20 hx6 hr10=>By hC46 1 z Ai ty88 z hx6 z z z fun v12 w22 hC47=>?_
      try dsimp only [List.set] at hC47
      refine Ad z z<|Ab<|?_
      obtain rfl:=Aa hr10
      exact Am (l':=[(1,u2),(3,u4),(9,v12),(10,v2),(11,(I x7))]) ⟨z,z,z,z,z,Aj⟩<|⟨v12,x20,z,z,hC47⟩
     replace hr10:=A8 hr10 hc8
     refine AF ?_
     obtain rfl:=Aa hr10
     have hC49:=hC38.f2
     have hC50:=hC49.f2
     have hC51:=hC50.h2
     exact Am (l':=[(1,u2),(3,u4),(9,v3),(10,v2),(11,(I x7))]) ⟨z,z,z,z,z,Aj⟩<|⟨v3,x6,z,z,hC51⟩
    rintro l6 _ w20 hs6 ⟨v11,x19,rfl,rfl,hC39⟩
    try dsimp only at hL1
    refine AU<|AY hs6<|?_
    clear hs6
    refine Bg<|Ae z z<|Bn z z z<|Ad z z<|Ab<|?_
    have hC52:=Ctx.rholeNext hx1 hC39
    exact Am (l':=[(1,u2),(3,u4),(9,v11),(10,v2),(11,(I (w64 (x7+1))))]) ⟨z,z,z,z,z,Aj⟩<|⟨k1,A3 _,v11,x19,w64 (x7+1),z,hC52,hL1⟩
   replace hL1:=A8 hL1 hc3
   refine B1 (A9 (A9 (Bk ?_)))
   obtain rfl:=Aa hL1
   have hC53:=hC11.f1
   have hC54:=hC53.h1
   exact Am (l':=[(9,v3)]) ⟨z,Aj⟩<|⟨v3,x6,z,z,hC54⟩
 rintro l7 _ w23 hs7 ⟨v4,x8,rfl,rfl,hC58⟩
 try dsimp only at hF
 refine AY hs7 ?_
 clear hs7
 refine Ac<|Ae z z<|Ad z z<|Ab<|AL<|?_
 obtain rfl:=Aa hF
 exact A2 z z<|⟨_,z,BY hC58 0 z⟩
theorem c_S_SatisfiesRules {w0:World} (a1:(List Int)) (u1:Value) (g1:RO [] w0 u1 a1) (a2:(List (Int × Int × (List Int)))) (u2:Value) (g2:RO [] w0 u2 a2) (a3:(List (Int × (List Int)))) (u3:Value) (g3:RO [] w0 u3 a3) (rr:Bool) (hF:S.SatisfiesRules a1 a2 a3=some rr) :
 Calls Tryz.prog 33 [u1,u2,u3].toArray w0 fun e w'=>∃v,e=.returned v∧Res w0 rr v w':=by
 refine Ax Tryz.func33 z z ?_
 have hC0:=A5 w0
 unfold S.SatisfiesRules at hF
 refine Ac<|Ad z z<|Ab<|be hF fun r1 hr1 hF=>BI (fun l w=>∃x1:Bool,x1=r1∧l=[(6,(.bool x1))]∧Below w0.heap.size w0 w∧Ctx [] w0 w []) ?_ ?_
 ·refine Bg<|Ae z z<|Ae z z<|be hr1 fun x2 hr2 hr1=>cb Tryz.call102 z z (c_S_AreRules a1 u1 (g1.now hC0.keep) a2 u2 (g2.now hC0.keep) x2 hr2) fun w2 hB2=>have hC2:=hC0.grow hB2;Ae z z<|Bz (fun hc1=>?_) (fun hc1=>?_)
  ·replace hr1:=A7 hr1 hc1
   refine Ah z z<|Ae z z<|Ah z z<|Ae z z<|be hr1 fun x3 hr3 hr1=>Ah z z<|cb Tryz.call101 z z (c_S_AreFacts a1 u1 (g1.now hC2.keep) a3 u3 (g3.now hC2.keep) x3 hr3) fun w3 hB3=>have hC3:=hC2.grow hB3;AW z z z<|Ae z z<|Bz (fun hc2=>?_) (fun hc2=>?_)
   ·replace hr1:=A7 hr1 hc2
    refine Ah z z<|Ae z z<|Ah z z<|Ae z z<|be hr1 fun x4 hr4 hr1=>Ah z z<|AG Tryz.call91 z z (c_S_l13Missing a2 u2 (g2.now hC3.keep) a3 u3 (g3.now hC3.keep) x4 hr4)<|?_
    rintro v1 w4 ⟨hB4,F1,hv3,hn1,hb1⟩
    have hC4:=hC3.push hB4 (A:=Af v1 x4) hv3 hn1 hb1
    refine Ah z z<|Bc Ai (hC4.ro 0 z) z z<|Ah z z<|BM z z z<|AW z z z<|Ad z z<|Ab<|?_
    obtain rfl:=Aa hr1
    have hC5:=hC4.h0
    exact Am (l':=[(6,(.bool (decide ((List.length x4:Int)=0))))]) ⟨z,Aj⟩<|⟨(decide ((List.length x4:Int)=0)),z,z,(((Ao hB2).then hB3).then hB4).below,hC5⟩
   replace hr1:=A8 hr1 hc2
   refine gs z z z z<|gs z z z z<|gs z z z z<|gs z z z z<|gs z z z z<|AZ z z z<|Ad z z<|Ab<|?_
   obtain rfl:=Aa hr1
   exact Am (l':=[(6,(.bool false))]) ⟨z,Aj⟩<|⟨false,z,z,((Ao hB2).then hB3).below,hC3⟩
  replace hr1:=A8 hr1 hc1
  refine gs z z z z<|gs z z z z<|gs z z z z<|AZ z z z<|Ae z z<|gs z z z z<|gs z z z z<|gs z z z z<|gs z z z z<|gs z z z z<|AZ z z z<|Ad z z<|Ab<|?_
  obtain rfl:=Aa hr1
  exact Am (l':=[(6,(.bool false))]) ⟨z,Aj⟩<|⟨false,z,z,(Ao hB2).below,hC2⟩
 rintro _ w1 ⟨x1,rfl,rfl,hB1,hC1⟩
 try dsimp only at hF
 refine AL ?_
 obtain rfl:=Aa hF
 exact A2 z z<|⟨_,z,AN hC1 _⟩
end Go.Gx.Px
