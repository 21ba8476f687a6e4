/- The contracts of the Go functions against the pure functions, printed by program. Conditions: each says them. -/
import Derived.Test.YtpjmmbipjddilaaGreatC2
set_option linter.unusedVariables false
set_option linter.unusedSimpArgs false
set_option maxRecDepth 100000
set_option maxHeartbeats 4000000
namespace Go.Gx.Px
open Go.Proofs Go.RowKit
open K9
theorem c_Slices_IndexFunc_Limpl_Fact_impl_Fact_M_ApplyChange_c1 {w0:World} (a1:(List (Int × (List Int)))) (u1:Value) (g1:RO [] w0 u1 a1) (pb1:Nat) (ax1:(Bool × (Int × (List Int)))) (g2:ROAt [] w0 pb1 0 ax1) (rr:Int) (hF:Slices.IndexFunc_Limpl_Fact_impl_Fact_M_ApplyChange_c1 a1 ax1=some rr) :
 Calls Tryz.prog 72 [u1,(.func (.func 37) #[] #[(ptr pb1 0)])].toArray w0 fun e w'=>∃v,e=.returned v∧Res w0 rr v w':=by
 refine A3 CK z z ?_
 have hC0:=AH w0
 unfold Slices.IndexFunc_Limpl_Fact_impl_Fact_M_ApplyChange_c1 at hF
 refine Ad<|Af z z<|Ab<|AA<|Ad<|Ae z z<|Bo Ah g1 z z<|Ae z z<|Ab<|be hF fun r1 hr1 hF=>Bx (fun l w=>.inl ()=r1∧l=[]∧Below w0.heap.size w0 w∧Ctx [] w0 w []) ?_ ?_
 ·refine Bb<|wS (l':=[(0,u1),(1,(.func (.func 37) #[] #[(ptr pb1 0)])),(7,(I (List.length a1:Int))),(8,(I 0))]) ⟨z,z,z,z,Ak⟩<|BE (fun k l w=>∃x1:Int,l=[(0,u1),(1,(.func (.func 37) #[] #[(ptr pb1 0)])),(7,(I (List.length a1:Int))),(8,(I x1))]∧Below w0.heap.size w0 w∧Ctx [] w0 w []∧Slices.IndexFunc_Limpl_Fact_impl_Fact_M_ApplyChange_c1_l1 a1 ax1 k x1=some r1) FUEL ⟨0,z,(An _ _),hC0,hr1⟩<|?_
  clear hr1
  rintro k1 _ w1 ⟨x1,rfl,hB1,hC1,hL1⟩
  cases k1 with
  | zero=>rw [Slices.IndexFunc_Limpl_Fact_impl_Fact_M_ApplyChange_c1_l1] at hL1; cases hL1
  | succ k1 =>
   rw [Slices.IndexFunc_Limpl_Fact_impl_Fact_M_ApplyChange_c1_l1] at hL1
   refine Ad<|B8 z z z<|Ab<|AA<|AL z (fun hc1=>?_) (fun hc1=>?_)
   ·replace hL1:=AD hL1 hc1
    refine AM<|Av<|AA<|Bb<|Ad<|Ae z z<|Af z z<|Ab<|Ad<|Ae z z<|Ae z z<|Ae z z<|be hL1 fun x2 hx1 hL1=>AZ Ah ty29 g1 hx1 z z z fun b1 o1 h1=>Be ty29 h1 hC1.keep z z fun v1 h2=>?_
    obtain ⟨v2,rfl,h3⟩:=BM h2
    refine be hL1 fun x3 hr2 hL1=>Cw (cap:=[(ptr pb1 0)]) Tryz.call37 z z z (c_M_ApplyChange_c1 x2 v2 (h3.now hC1.keep) pb1 ax1 (g2.now hC1.keep) x3 hr2) fun _ w2 hv1=>?_
    obtain ⟨rfl,hB2⟩:=Cx hv1
    have hC2:=hC1.grow hB2
    refine Ab<|AL z (fun hc2=>?_) (fun hc2=>?_)
    ·replace hL1:=AD hL1 hc2
     refine Ad<|Ae z z<|Af z z<|Ab<|AK<|Bu<|A2<|A2<|Bu<|A2<|A2<|?_
     obtain rfl:=Aa hL1
     dsimp only at hF
     obtain rfl:=Aa hF
     exact AB z z<|⟨_,z,B7 hC2 _⟩
    replace hL1:=AE hL1 hc2
    exact AM<|Bg<|Av<|Bt<|Bw z z z<|Ae z z<|Ab<|Ay (l':=[(0,u1),(1,(.func (.func 37) #[] #[(ptr pb1 0)])),(7,(I (List.length a1:Int))),(8,(I (w64 (x1+1))))]) ⟨z,z,z,z,Ak⟩<|⟨k1,AO _,w64 (x1+1),z,((Al hB1).then hB2).below,hC2,hL1⟩
   replace hL1:=AE hL1 hc1
   refine BF (AW (AW (B4 ?_)))
   obtain rfl:=Aa hL1
   exact Ay (l':=[]) Ak<|⟨z,z,(Al hB1).below,hC1⟩
 rintro l2 _ w3 hs2 ⟨rfl,rfl,hB3,hC3⟩
 try dsimp only at hF
 refine Bm hs2 ?_
 clear hs2
 refine Ad<|Af z z<|Ab<|AK<|?_
 obtain rfl:=Aa hF
 exact AB z z<|⟨_,z,B7 hC3 _⟩
theorem c_Slices_DeleteFunc_Limpl_Fact_impl_Fact_M_ApplyChange_c1 {Fs:List (List Nat)} {w0:World} (a1:(List (Int × (List Int)))) (u1:Value) (pb1:Nat) (ax1:(Bool × (Int × (List Int)))) (g1:ROAt Fs.flatten w0 pb1 0 ax1) (hH:Hold [Ag u1 (a1:(List (Int × (List Int))))] w0 Fs) (hn:Fs.flatten.Nodup) (rr:(List (Int × (List Int)))) (hF:Slices.DeleteFunc_Limpl_Fact_impl_Fact_M_ApplyChange_c1 a1 ax1=some rr) :
 Calls Tryz.prog 36 [u1,(.func (.func 37) #[] #[(ptr pb1 0)])].toArray w0 fun e w'=>∃v,e=.returned v∧∃q0:Value,v=q0∧Ctx Fs.flatten w0 w' [Ag q0 (rr:(List (Int × (List Int))))]:=by
 refine A3 Tryz.func36 z z ?_
 have hC0:=B6 hH hn
 unfold Slices.DeleteFunc_Limpl_Fact_impl_Fact_M_ApplyChange_c1 at hF
 refine be hF fun x hx hF=>Ad<|Af z z<|Ab<|Ad<|Ae z z<|Ae z z<|ci CL z z (c_Slices_IndexFunc_Limpl_Fact_impl_Fact_M_ApplyChange_c1 a1 u1 (hC0.ro 0 z) pb1 ax1 (g1.now (B5 _ _)) x hx) fun w1 hB1=>have hC1:=hC0.grow hB1;Af z z<|Ab<|AA<|Ad<|Ae z z<|BP z z z<|?_
 by_cases hx1:x=-1
 ·rw [if_pos hx1] at hF
  obtain rfl:=Aa hF
  rw [decide_eq_true hx1]
  exact Ab<|C8 z<|Ad<|Ae z z<|Af z z<|Ab<|AK<|A2<|AB z z<|⟨_,z,_,z,hC1⟩
 rw [if_neg hx1] at hF
 have hr:0 ≤ x∧x < (a1.length:Int):=Classical.byContradiction fun h=>by rw [if_neg h] at hF; cases hF
 rw [if_pos hr] at hF
 obtain ⟨m,rfl⟩:∃m:Nat,x=m:=⟨x.toNat,by omega⟩
 have hm:m < a1.length:=by omega
 have hlim:=(hC0.ro 0 z).lt
 simp only [maxLen] at hlim
 rw [Int.toNat_natCast] at hF
 rw [decide_eq_false hx1]
 refine Ab<|C9 z<|AM<|Av<|AA<|Ad<|Ae z z<|Bw z z z<|?_
 rw [show w64 ((m:Int)+1)=((m+1:Nat):Int) by rw [w64_id (by omega) (by omega)]; omega]
 refine Af z z<|Ab<|?_
 obtain ⟨b,c,rfl,hc1,hc2,hD0⟩:=hC1.del_open hm
 have hml:(a1.take m).length=m:=by rw [List.length_take]; omega
 refine Bx (fun l w=>∃kept:List (Int × (List Int)),∃g:Nat,l=[(0,.slice (some ⟨b,0,none⟩) a1.length c),(5,.int .i64 (kept.length:Int))]∧0 < g∧kept.length+g=a1.length∧kept=rr∧Ctx Fs.flatten w0 w [Item.del b c kept g ([]:List (Int × (List Int)))]) ?_ ?_
 ·refine Bb<|wS (l':=[(0,.slice (some ⟨b,0,none⟩) a1.length c),(1,(.func (.func 37) #[] #[(ptr pb1 0)])),(5,.int .i64 (m:Int)),(6,.int .i64 ((m+1:Nat):Int))]) ⟨z,z,z,z,Ak⟩<|BE (fun k l w=>∃kept:List (Int × (List Int)),∃g:Nat,∃rest:List (Int × (List Int)),l=[(0,.slice (some ⟨b,0,none⟩) a1.length c),(1,(.func (.func 37) #[] #[(ptr pb1 0)])),(5,.int .i64 (kept.length:Int)),(6,.int .i64 ((kept.length+g:Nat):Int))]∧0 < g∧kept.length+g+rest.length=a1.length∧dfl (fun e=>M.ApplyChange_c1 e ax1) kept rest=some rr∧k=rest.length∧Ctx Fs.flatten w0 w [Item.del b c kept g rest]) (a1.drop (m+1)).length ⟨a1.take m,1,a1.drop (m+1),by rw [hml],by omega,by rw [hml,List.length_drop]; omega,hF,z,hD0⟩<|?_
  clear hF hD0
  rintro k1 _ w2 ⟨kept,g,rest,rfl,hg,hlen,hL,hk,hD⟩
  refine AA<|Ad<|Ae z z<|Ae z z<|WL_len_raw Ah z z<|B8 z z z<|?_
  cases rest with
  | nil =>
   have hq:=Aa hL
   simp only [List.length_nil,Nat.add_zero] at hlen
   rw [decide_eq_false (show ¬ ((kept.length+g:Nat):Int) < (a1.length:Int) by omega)]
   exact Ab<|C9 z<|BF<|AW<|AW<|B4<|Ay (l':=[(0,.slice (some ⟨b,0,none⟩) a1.length c),(5,.int .i64 (kept.length:Int))]) ⟨z,z,Ak⟩<|⟨kept,g,z,hg,hlen,hq,hD⟩
  | cons x rest =>
   simp only [List.length_cons] at hlen hk
   rw [decide_eq_true (show ((kept.length+g:Nat):Int) < (a1.length:Int) by omega)]
   refine Ab<|C8 z<|AM<|Av<|AA<|Bb<|Ad<|Ae z z<|Ae z z<|CH Ah ty29 (show kept.length+g < a1.length by omega) z z z<|?_
   obtain ⟨cs,hcs,hD1⟩:=hD.del_head
   obtain ⟨hro,row,T,hh,hrow⟩:=hD1.delh_row
   refine WL_load_raw ty29 hh (by rw [Nat.zero_add]; exact hrow) hcs z z ?_
   obtain ⟨e1,hce,_⟩:=BM hro
   obtain rfl:=cells_of_agg (cs':=[(I x.1),e1]) hce
   rw [show mkv (Rep.agg (Int × (List Int))) [(I x.1),e1]=(.agg #[(I x.1),e1]) from z]
   refine WL_alloc hD1 zero29 z z (fun b7 w3 hD2 hB2=>?_)
   have phr:=hD2.delh_ro (α:=(Int × (List Int))) 1 z
   obtain ⟨pf0,phe,pg0⟩:=BM phr
   replace phe:=cells_of_agg (cs:=[(I x.1),e1]) (cs':=[(I x.1),pf0]) phe
   simp only [List.cons.injEq,and_true,true_and] at phe
   obtain rfl:=phe
   refine WL_store_box_agg (cs':=[(I x.1),e1]) (new:=[(I x.1),e1]) hD2 0 z z (fac z<|fac (AT pg0)<|fa0) z AQ z z (fun w4 hD3=>?_)
   try dsimp only [List.set] at hD3
   refine Ab<|Ad<|Ae z z<|At [(I x.1),e1] hD3 0 z z z By AQ z z<|?_
   have qhr:=hD3.delh_ro (α:=(Int × (List Int))) 1 z
   obtain ⟨qf0,qhe,qg0⟩:=BM qhr
   replace qhe:=cells_of_agg (cs:=[(I x.1),e1]) (cs':=[(I x.1),qf0]) qhe
   simp only [List.cons.injEq,and_true,true_and] at qhe
   obtain rfl:=qhe
   obtain ⟨q,hq,hL⟩:=bind_some (show (M.ApplyChange_c1 x ax1).bind (fun b=>dfl (fun e=>M.ApplyChange_c1 e ax1) (if b then kept else kept ++ [x]) rest)=some rr from hL)
   refine Cw (cap:=[(ptr pb1 0)]) Tryz.call37 z z z (c_M_ApplyChange_c1 x e1 qg0 pb1 ax1 (g1.now hD3.keep) q hq) ?_
   intro _ w5 hv2
   obtain ⟨rfl,hB5⟩:=Cx hv2
   have hD4:=hD3.grow hB5
   refine B2 z z<|Ab<|AL z (fun hq1=>?_) (fun hq1=>?_)
   ·have hqf:q=false:=by simpa using hq1
    rw [hqf] at hL
    rw [if_neg (by simp)] at hL
    refine Ad<|Ae z z<|Ae z z<|At [(I x.1),e1] hD4 0 z z z By AQ z z<|CH Ah ty29 (show kept.length < a1.length by omega) z z z<|WL_store_del hD4.swap hg ty29 z z z fun w6 hD5=>Ab<|Bt<|Ae z z<|Bw z z z<|?_
    rw [show w64 ((kept.length:Int)+1)=((kept ++ [x]).length:Int) by rw [w64_id (by omega) (by omega),List.length_append]; rfl]
    refine Af z z<|Ab<|Bg<|Av<|Bt<|Ae z z<|Bw z z z<|?_
    rw [show w64 (((kept.length+g:Nat):Int)+1)=(((kept ++ [x]).length+g:Nat):Int) by rw [w64_id (by omega) (by omega),List.length_append]; simp only [List.length_cons,List.length_nil]; omega]
    exact Af z z<|Ab<|Ay (l':=[(0,.slice (some ⟨b,0,none⟩) a1.length c),(1,(.func (.func 37) #[] #[(ptr pb1 0)])),(5,.int .i64 ((kept ++ [x]).length:Int)),(6,.int .i64 (((kept ++ [x]).length+g:Nat):Int))]) ⟨z,z,z,z,Ak⟩<|⟨rest.length,by omega,kept ++ [x],g,rest,z,hg,by rw [List.length_append]; simp only [List.length_cons,List.length_nil]; omega,hL,z,hD5.headN 1⟩
   have hqt:q=true:=by simpa using hq1
   rw [hqt] at hL
   rw [if_pos z] at hL
   refine AM<|Bg<|Av<|Bt<|Ae z z<|Bw z z z<|?_
   rw [show w64 (((kept.length+g:Nat):Int)+1)=((kept.length+(g+1):Nat):Int) by rw [w64_id (by omega) (by omega)]; omega]
   refine Af z z<|Ab<|Ay (l':=[(0,.slice (some ⟨b,0,none⟩) a1.length c),(1,(.func (.func 37) #[] #[(ptr pb1 0)])),(5,.int .i64 (kept.length:Int)),(6,.int .i64 ((kept.length+(g+1):Nat):Int))]) ⟨z,z,z,z,Ak⟩<|?_
   have hD5:=(hD4.swap.headN 1).del_skip
   exact ⟨rest.length,by omega,kept,g+1,rest,z,by omega,by omega,hL,z,hD5⟩
 rintro l2 _ w8 hs2 ⟨kept,g,rfl,hg,hlen,rfl,hD⟩
 refine Bm hs2 ?_
 clear hs2
 exact Ad<|Ae z z<|Ae z z<|CD Ah ty29 (show kept.length < c by omega) (show kept.length ≤ a1.length by omega) hc1 z z z<|WL_clear_del hD Ah ty29 zc29 (fac z<|fac z<|fa0) hlen.symm z hg fun w9 hD9=>Ab<|Ad<|Ae z z<|Ae z z<|WL_sl_h Ah ty29 (hi:=kept.length) (by omega) (by omega) z z z<|Af z z<|Ab<|AK<|AB z z<|⟨_,z,_,z,hD9⟩
theorem c_M_ApplyChange {w0:World} (a1:(List Int)) (u1:Value) (g1:RO [] w0 u1 a1) (a2:((List (Int × (List Int))) × Int)) (u2:Value) (g2:RO [] w0 u2 a2.1) (a3:(Bool × (Int × (List Int)))) (u3:Value) (g3:RO [] w0 u3 a3.2.2) (rr:(((List (Int × (List Int))) × Int) × Bool)) (hF:M.ApplyChange a1 a2 a3=some rr) :
 Calls Tryz.prog 7 [u1,(.agg #[u2,(I a2.2)]),(.agg #[(.bool a3.1),(I a3.2.1),u3])].toArray w0 fun e w'=>∃v,e=.returned v∧Res2 w0 rr.1 rr.2 v w':=by
 refine A3 Tryz.func7 z z ?_
 have hC0:=AH w0
 unfold M.ApplyChange at hF
 refine Ad<|Bz (cs:=[u2,(I a2.2)]) hC0 z z z fun b1 w1 hC1 hB1 hN1=>Bz (cs:=[(.bool a3.1),(I a3.2.1),u3]) hC1 z z z fun b2 w2 hC2 hB2 hN2=>Bd hC2 zero27 z z fun b3 w3 hC3 hB3 hN3=>Af z z<|Ab<|Ad<|At [u2,(I a2.2)] hC3 2 z z z A8 Az z z<|be hF fun x1 hr1 hF=>AJ Tryz.call32 z z (c_M_copySource (a2.1,a2.2) u2 (g2.now hC3.keep) x1 hr1)<|?_
 rintro v1 w4 ⟨hB4,F1,hv1,hn1,hb1⟩
 have hC4:=hC3.push hB4 (A:=Ag v1 x1) hv1 hn1 hb1
 obtain ⟨v2,rfl,hC5⟩:=st27_own hC4
 refine Bd hC5 zero27 z z fun b4 w5 hC6 hB5 hN4=>Aj (cs':=[v2,(I x1.2)]) (new:=[v2,(I x1.2)]) hC6 0 z z (fac (AT (hC6.ro 1 z))<|fac z<|fa0) z Az z z fun w6 hC7 hKp1=>?_
 try dsimp only [List.set] at hC7
 have hk1:=Ar (((((Al hB1).then hB2).then hB3).then hB4).then hB5) (Ao ((((Al hB1).then hB2).then hB3).then hB4).size hN4) hKp1
 have hk2:=Ar ((((Al hB2).then hB3).then hB4).then hB5) (Ao (((Al hB2).then hB3).then hB4).size hN4) hKp1
 have hk3:=Ar (((Al hB3).then hB4).then hB5) (Ao ((Al hB3).then hB4).size hN4) hKp1
 have hk4:=Ar ((Al hB4).then hB5) (Ao (Al hB4).size hN4) hKp1
 have hk5:=Ar (Al hB5) hN4 hKp1
 refine Ab<|Ad<|fd A5 AG z z z z<|Aq hC7 4 z z Bk z z<|fd B1 AQ z z z z<|At [(I a3.2.1),u3] hC7 3 z z z By AQ z z<|be hF fun x2 hr2 hF=>cb Tryz.call33 z z (c_M_HasFact a2.1 u2 (g2.now hC7.keep) (a3.2.1,a3.2.2) u3 (g3.now hC7.keep) x2 hr2) fun w7 hB6=>have hC8:=hC7.grow hB6;Af z z<|Ab<|AA<|be hF fun r1 hr3 hF=>BL (fun l w=>∃x3:Bool,x3=r1∧l=[(5,(ptr b2 0)),(6,(ptr b3 0)),(8,(ptr b4 0)),(48,(.bool x3))]∧Below w7.heap.size w7 w∧Ctx [] w0 w [Ac b4 [v2,(I x1.2)],Ag v2 (x1.1:(List (Int × (List Int)))),Ac b3 [(.slice none 0 0),(I 0)],Ac b2 [(.bool a3.1),(I a3.2.1),u3]]) ?_ ?_
 ·refine Bt<|Ae z z<|At [u2,(I a2.2)] hC8 4 z z z A8 Az z z<|be hr3 fun x4 hr4 hr3=>cb Tryz.call10 z z (c_M_IsSource a1 u1 (g1.now hC8.keep) (a2.1,a2.2) u2 (g2.now hC8.keep) x4 hr4) fun w10 hB8=>have hC10:=hC8.grow hB8;B2 z z<|Ae z z<|B3 (fun hc1=>?_) (fun hc1=>?_)
  ·replace hr3:=AD hr3 hc1
   refine gs z z z z<|gs z z z z<|gs z z z z<|gs z z z z<|gs z z z z<|AI z z z<|Ae z z<|gs z z z z<|gs z z z z<|gs z z z z<|AI z z z<|Ae z z<|gs z z z z<|gs z z z z<|gs z z z z<|gs z z z z<|AI z z z<|Ae z z<|gs z z z z<|gs z z z z<|gs z z z z<|gs z z z z<|gs z z z z<|gs z z z z<|gs z z z z<|gs z z z z<|AI z z z<|Ab<|?_
   obtain rfl:=Aa hr3
   have hC11:=hC10.f3
   have hC12:=hC11.f3
   have hC13:=hC12.f3
   have hC14:=hC13.f3
   have hC15:=hC14.h4
   exact Ay (l':=[(5,(ptr b2 0)),(6,(ptr b3 0)),(8,(ptr b4 0)),(48,(.bool true))]) ⟨z,z,z,z,Ak⟩<|⟨true,z,z,(Al hB8).below,hC15⟩
  replace hr3:=AE hr3 hc1
  refine Ai z z<|Ae z z<|Ai z z<|fd B1 AQ z z z z<|Ai z z<|At [(I a3.2.1),u3] hC10 3 z z z By AQ z z<|be hr3 fun x5 hr5 hr3=>Ai z z<|cb Tryz.call34 z z (c_M_IsFact a1 u1 (g1.now hC10.keep) (a3.2.1,a3.2.2) u3 (g3.now hC10.keep) x5 hr5) fun w11 hB9=>have hC16:=hC10.grow hB9;Ai z z<|B2 z z<|AY z z z<|Ae z z<|B3 (fun hc2=>?_) (fun hc2=>?_)
  ·replace hr3:=AD hr3 hc2
   refine gs z z z z<|gs z z z z<|gs z z z z<|AI z z z<|Ae z z<|gs z z z z<|gs z z z z<|gs z z z z<|gs z z z z<|AI z z z<|Ae z z<|gs z z z z<|gs z z z z<|gs z z z z<|gs z z z z<|gs z z z z<|gs z z z z<|gs z z z z<|gs z z z z<|AI z z z<|Ab<|?_
   obtain rfl:=Aa hr3
   have hC17:=hC16.f3
   have hC18:=hC17.f3
   have hC19:=hC18.f3
   have hC20:=hC19.f3
   have hC21:=hC20.h4
   exact Ay (l':=[(5,(ptr b2 0)),(6,(ptr b3 0)),(8,(ptr b4 0)),(48,(.bool true))]) ⟨z,z,z,z,Ak⟩<|⟨true,z,z,((Al hB8).then hB9).below,hC21⟩
  replace hr3:=AE hr3 hc2
  refine Ai z z<|fd A5 Ax z z z z<|Ai z z<|Aq hC16 4 z z A6 z z<|Ai z z<|BP z z z<|AY z z z<|Ae z z<|B3 (fun hc3=>?_) (fun hc3=>?_)
  ·replace hr3:=AD hr3 hc3
   refine gs z z z z<|gs z z z z<|gs z z z z<|gs z z z z<|AI z z z<|Ae z z<|gs z z z z<|gs z z z z<|gs z z z z<|gs z z z z<|gs z z z z<|gs z z z z<|gs z z z z<|gs z z z z<|AI z z z<|Ab<|?_
   obtain rfl:=Aa hr3
   have hC22:=hC16.f3
   have hC23:=hC22.f3
   have hC24:=hC23.f3
   have hC25:=hC24.f3
   have hC26:=hC25.h4
   exact Ay (l':=[(5,(ptr b2 0)),(6,(ptr b3 0)),(8,(ptr b4 0)),(48,(.bool true))]) ⟨z,z,z,z,Ak⟩<|⟨true,z,z,((Al hB8).then hB9).below,hC26⟩
  replace hr3:=AE hr3 hc3
  refine Ai z z<|Ae z z<|Ai z z<|fd B1 BG z z z z<|Ai z z<|Aq hC16 3 z z Cd z z<|Ai z z<|WL_bool_eql C0 z z z<|AY z z z<|Ae z z<|B3 (fun hc4=>?_) (fun hc4=>?_)
  ·replace hr3:=AD hr3 hc4
   refine gs z z z z<|gs z z z z<|gs z z z z<|gs z z z z<|gs z z z z<|gs z z z z<|gs z z z z<|gs z z z z<|AI z z z<|Ab<|?_
   obtain rfl:=Aa hr3
   have hC27:=hC16.f3
   have hC28:=hC27.f3
   have hC29:=hC28.f3
   have hC30:=hC29.f3
   have hC31:=hC30.h4
   exact Ay (l':=[(5,(ptr b2 0)),(6,(ptr b3 0)),(8,(ptr b4 0)),(48,(.bool true))]) ⟨z,z,z,z,Ak⟩<|⟨true,z,z,((Al hB8).then hB9).below,hC31⟩
  replace hr3:=AE hr3 hc4
  refine Ai z z<|fd B1 BG z z z z<|Ai z z<|Aq hC16 3 z z Cd z z<|Ai z z<|Ae z z<|B3 (fun hc5=>?_) (fun hc5=>?_)
  ·replace hr3:=AD hr3 hc5
   refine Ai z z<|fd A5 AG z z z z<|Ai z z<|Aq hC16 4 z z Bk z z<|Ai z z<|Bo Ah g2 z z<|Ai z z<|Cu z z z<|Ai z z<|AI z z z<|AY z z z<|Ab<|?_
   obtain rfl:=Aa hr3
   have hC32:=hC16.f3
   have hC33:=hC32.f3
   have hC34:=hC33.f3
   have hC35:=hC34.f3
   have hC36:=hC35.h4
   exact Ay (l':=[(5,(ptr b2 0)),(6,(ptr b3 0)),(8,(ptr b4 0)),(48,(.bool (decide (24 ≤ (List.length a2.1:Int)))))]) ⟨z,z,z,z,Ak⟩<|⟨(decide (24 ≤ (List.length a2.1:Int))),z,z,((Al hB8).then hB9).below,hC36⟩
  replace hr3:=AE hr3 hc5
  refine gs z z z z<|gs z z z z<|gs z z z z<|gs z z z z<|Ai z z<|AY z z z<|AY z z z<|Ab<|?_
  obtain rfl:=Aa hr3
  have hC37:=hC16.f3
  have hC38:=hC37.f3
  have hC39:=hC38.f3
  have hC40:=hC39.f3
  have hC41:=hC40.h4
  exact Ay (l':=[(5,(ptr b2 0)),(6,(ptr b3 0)),(8,(ptr b4 0)),(48,(.bool false))]) ⟨z,z,z,z,Ak⟩<|⟨false,z,z,((Al hB8).then hB9).below,hC41⟩
 rintro _ w9 ⟨x3,rfl,rfl,hB7,hC9⟩
 try dsimp only at hF
 refine AL z (fun hc6=>?_) (fun hc6=>?_)
 ·replace hF:=AD hF hc6
  refine Ad<|At [v2,(I x1.2)] hC9 0 z z z A8 Az z z<|Aj (cs':=[v2,(I x1.2)]) (new:=[v2,(I x1.2)]) hC9 2 z z (fac (AT (hC9.ro 1 z))<|fac z<|fa0) z Az z z fun w12 hC42 hKp2=>?_
  try dsimp only [List.set] at hC42
  have hk6:=Ar ((hk1.then hB6).then hB7) (Ao ((Al hB1).then hB2).size hN3) hKp2
  have hk7:=Ar ((hk2.then hB6).then hB7) (Ao (Al hB2).size hN3) hKp2
  have hk8:=Ar ((hk3.then hB6).then hB7) hN3 hKp2
  refine Af z z<|Ab<|AK<|A2<|?_
  obtain rfl:=Aa hF
  refine BZ z (rv_cell_agg (cs':=[v2,(I x1.2)]) hC42 (i:=2) z z z A8 Az z) (rv_tmp z) ?_
  have hC43:=hC42.triv (Ck (false))
  have hC45:=hC43.f2
  have hC44:=Cb v2 x1.1 x1.2 hC45
  exact ⟨_,z,res2_of hC44⟩
 replace hF:=AE hF hc6
 refine AM<|Av<|AA<|Ad<|fd B1 BG z z z z<|Aq hC9 3 z z Cd z z<|Ab<|be hF fun r2 hr6 hF=>Bx (fun l w=>∃v3:Value,∃x6:(List (Int × (List Int))),∃x7:Int,(x6,x7)=r2∧l=[(6,(ptr b3 0)),(8,(ptr b4 0))]∧Ctx [] w0 w [Ac b4 [v3,(I x7)],Ag v3 (x6:(List (Int × (List Int)))),Ac b3 [(.slice none 0 0),(I 0)]]) ?_ ?_
 ·refine AL z (fun hc7=>?_) (fun hc7=>?_)
  ·replace hr6:=AD hr6 hc7
   refine Bt<|fd A5 AG z z z z<|Aq hC9 0 z z Bk z z<|fd B1 AQ z z z z<|At [(I a3.2.1),u3] hC9 3 z z z By AQ z z<|be hr6 fun x8 hr7 hr6=>have hC47:=hC9.f1;?_
   obtain ⟨Fs1,hH1,hn2,hF1,hO1,hb2⟩:=AS (As:=[Ac b4 [v2,(I x1.2)],Ac b3 [(.slice none 0 0),(I 0)],Ac b2 [(.bool a3.1),(I a3.2.1),u3]]) [Ag v2 (x1.1:(List (Int × (List Int))))] hC47
   refine AJ Tryz.call35 z z (c_M_added x1.1 v2 (a3.2.1,a3.2.2) u3 (AX g3 hC47.keep hF1) hH1 hn2 x8 hr7) ?_
   rintro v4 w14 ⟨_,rfl,hq8⟩
   have hC48:Ctx [] w0 w14 [Ag v4 (x8:(List (Int × (List Int)))),Ac b4 [v2,(I x1.2)],Ac b3 [(.slice none 0 0),(I 0)],Ac b2 [(.bool a3.1),(I a3.2.1),u3]]:=hb2 _ _ hq8
   refine fd A5 AG z z z z<|Bc (cs':=[v4,(I x1.2)]) hC48 1 z z (AT (hC48.ro 0 z)) z AG z z fun w15 hC49 hKp3=>?_
   try dsimp only [List.set] at hC49
   refine Ab ?_
   obtain rfl:=Aa hr6
   have hC50:=hC49.f2
   have hC51:=hC50.f1
   have hC52:=hC51.f2
   have hC53:=hC52.h3
   exact Ay (l':=[(6,(ptr b3 0)),(8,(ptr b4 0))]) ⟨z,z,Ak⟩<|⟨v4,x8,x1.2,z,z,hC53⟩
  replace hr6:=AE hr6 hc7
  refine Bt<|fd A5 AG z z z z<|Aq hC9 0 z z Bk z z<|C3 z z<|be hr6 fun x9 hr8 hr6=>have hC54:=hC9.f1;?_
  obtain ⟨Fs2,hH2,hn3,hF2,hO2,hX2,hb3⟩:=Ctx.lend3 (As:=[Ac b4 [v2,(I x1.2)],Ac b3 [(.slice none 0 0),(I 0)],Ac b2 [(.bool a3.1),(I a3.2.1),u3]]) [Ag v2 (x1.1:(List (Int × (List Int))))] hC54
  refine AJ Tryz.call36 z z (c_Slices_DeleteFunc_Limpl_Fact_impl_Fact_M_ApplyChange_c1 x1.1 v2 b2 (a3.1,(a3.2.1,a3.2.2)) (roat_box (hX2 2 _ _ z) (repd_pair repd_bool (repd_pair repd_int (repd_slice (AX g3 hC54.keep hF2))))) hH2 hn3 x9 hr8) ?_
  rintro v5 w16 ⟨_,rfl,hq10⟩
  have hC55:Ctx [] w0 w16 [Ag v5 (x9:(List (Int × (List Int)))),Ac b4 [v2,(I x1.2)],Ac b3 [(.slice none 0 0),(I 0)],Ac b2 [(.bool a3.1),(I a3.2.1),u3]]:=hb3 _ _ hq10
  refine fd A5 AG z z z z<|Bc (cs':=[v5,(I x1.2)]) hC55 1 z z (AT (hC55.ro 0 z)) z AG z z fun w17 hC56 hKp4=>?_
  try dsimp only [List.set] at hC56
  refine Ab ?_
  obtain rfl:=Aa hr6
  have hC57:=hC56.f2
  have hC58:=hC57.f1
  have hC59:=hC58.f2
  have hC60:=hC59.h3
  exact Ay (l':=[(6,(ptr b3 0)),(8,(ptr b4 0))]) ⟨z,z,Ak⟩<|⟨v5,x9,x1.2,z,z,hC60⟩
 rintro l2 _ w13 hs2 ⟨v3,x6,x7,rfl,rfl,hC46⟩
 try dsimp only at hF
 refine Bm hs2 ?_
 clear hs2
 refine Ad<|fd A5 Ax z z z z<|Aq hC46 0 z z A6 z z<|Bw z z z<|fd A5 Ax z z z z<|Bc (cs':=[v3,(I (w64 (x7+1)))]) hC46 0 z z z z Ax z z fun w18 hC61 hKp5=>?_
 try dsimp only [List.set] at hC61
 refine Ab<|Ad<|At [v3,(I (w64 (x7+1)))] hC61 0 z z z A8 Az z z<|Aj (cs':=[v3,(I (w64 (x7+1)))]) (new:=[v3,(I (w64 (x7+1)))]) hC61 2 z z (fac (AT (hC61.ro 1 z))<|fac z<|fa0) z Az z z fun w19 hC62 hKp6=>?_
 try dsimp only [List.set] at hC62
 refine Af z z<|Ab<|AK<|?_
 obtain rfl:=Aa hF
 refine BZ z (rv_cell_agg (cs':=[v3,(I (w64 (x7+1)))]) hC62 (i:=2) z z z A8 Az z) (rv_tmp z) ?_
 have hC63:=hC62.triv (Ck (true))
 have hC65:=hC63.f2
 have hC64:=Cb v3 x6 (w64 (x7+1)) hC65
 exact ⟨_,z,res2_of hC64⟩
theorem c_M_ascending {w0:World} (a1:(List Int)) (u1:Value) (g1:RO [] w0 u1 a1) (rr:Bool) (hF:M.ascending a1=some rr) :
 Calls Tryz.prog 110 [u1].toArray w0 fun e w'=>∃v,e=.returned v∧Res w0 rr v w':=by
 refine A3 Tryz.func110 z z ?_
 have hC0:=AH w0
 unfold M.ascending at hF
 refine Ad<|Af z z<|Ab<|AA<|Ad<|Ae z z<|Bo Ap g1 z z<|Ae z z<|Ab<|be hF fun r1 hr1 hF=>Bx (fun l w=>.inl ()=r1∧l=[]∧Below w0.heap.size w0 w∧Ctx [] w0 w []) ?_ ?_
 ·refine Bb<|wS (l':=[(0,u1),(5,(I (List.length a1:Int))),(6,(I 0))]) ⟨z,z,z,Ak⟩<|BE (fun k l w=>∃x1:Int,l=[(0,u1),(5,(I (List.length a1:Int))),(6,(I x1))]∧Below w0.heap.size w0 w∧Ctx [] w0 w []∧M.ascending_l1 a1 k x1=some r1) FUEL ⟨0,z,(An _ _),hC0,hr1⟩<|?_
  clear hr1
  rintro k1 _ w1 ⟨x1,rfl,hB1,hC1,hL1⟩
  cases k1 with
  | zero=>rw [M.ascending_l1] at hL1; cases hL1
  | succ k1 =>
   rw [M.ascending_l1] at hL1
   refine Ad<|B8 z z z<|Ab<|AA<|AL z (fun hc1=>?_) (fun hc1=>?_)
   ·replace hL1:=AD hL1 hc1
    refine AM<|Av<|AA<|Bb<|Ad<|Ae z z<|Af z z<|Ab<|be hL1 fun r2 hr2 hL1=>BL (fun l w=>∃x2:Bool,x2=r2∧l=[(0,u1),(5,(I (List.length a1:Int))),(6,(I x1)),(22,(.bool x2))]∧Below w1.heap.size w1 w∧Ctx [] w0 w []) ?_ ?_
    ·refine W_drawn 14 z hmix fun w3 hB3=>have hC3:=hC1.grow hB3;tm 0 z z z<|tk 1 z z (fl_gtr z z)<|Cr z z z<|Ab<|tm 2 z z z<|BO (fun hc2=>?_) (fun hc2=>?_)
     ·replace hr2:=AD hr2 hc2
      refine tn 3 z z z z z<|tn 4 z z z z z<|be hr2 fun x3 hx1 hr2=>tg 5 z z z z (BK Ap ty3 g1 hx1 z z)<|Ai z z<|AZ Ap ty3 g1 hx1 z z z fun b1 o1 h1=>Ab<|tn 7 z z z z z<|tn 8 z z z z z<|tg 9 z z z z (Cz z z)<|Ai z z<|BV z z z<|Ab<|be hr2 fun x4 hx2 hr2=>tg 10 z z z z (BK Ap ty3 g1 hx2 z z)<|Ai z z<|AZ Ap ty3 g1 hx2 z z z fun b2 o2 h2=>Ab<|wAS (l':=[(0,u1),(3,(I x1)),(5,(I (List.length a1:Int))),(6,(I x1)),(7,(.bool (decide (x1 < (List.length a1:Int))))),(8,(I x1)),(9,(I x1)),(10,(.bool (decide (0 < x1)))),(11,(.bool true)),(12,u1),(13,(I x1)),(14,(ptr b1 o1)),(16,u1),(17,(I x1)),(18,(I (w64 (x1 - 1)))),(19,(ptr b2 o2))]) ⟨z,z,z,z,z,z,z,z,z,z,z,z,z,z,z,z,Ak⟩<|Bq [⟨6,[],fun vs=>AR (I x3),[]⟩,⟨11,[],fun vs=>AR (I x4),[]⟩] [[],[]] 2 z (by kernel_rfl) (by kernel_rfl) z ?_ ?_
      ·refine Am z ?_ ?_
       ·intro w4 hB4
        refine Aw<|⟨_,z,?_⟩
        refine Ai z z<|Be ty3 h1 (hC3.keep.then hB4) z z fun v1 h3=>?_
        obtain rfl:=BJ h3
        exact Ab<|A0 (An _ _) z z ⟨z,z⟩
       refine Am z ?_ ?_
       ·intro w4 hB4
        refine Aw<|⟨_,z,?_⟩
        refine Ai z z<|Be ty3 h2 (hC3.keep.then hB4) z z fun v2 h4=>?_
        obtain rfl:=BJ h4
        exact Ab<|A0 (An _ _) z z ⟨z,z⟩
       exact Ba
      intro w5 hB5
      refine Au z z z ?_
      rintro _ _ ⟨rfl,rfl⟩
      refine Au z z z ?_
      rintro _ _ ⟨rfl,rfl⟩
      refine Bh fun hn1 hb1=>have hC4:=hC3.grow hB5;tg 12 z z z z (fl_leq z z)<|Ai z z<|CE z z z<|Ab<|tp 13 z z z z<|dn<|?_
      obtain rfl:=Aa hr2
      exact Ay (l':=[(0,u1),(5,(I (List.length a1:Int))),(6,(I x1)),(22,(.bool (decide (x3 ≤ x4))))]) ⟨z,z,z,z,Ak⟩<|⟨(decide (x3 ≤ x4)),z,z,((Al hB3).then hB5).below,hC4⟩
     replace hr2:=AE hr2 hc2
     refine sk 3 z z z z z<|sk 4 z z z z z<|sk 5 z z z z z<|sk 6 z z z z z<|sk 7 z z z z z<|sk 8 z z z z z<|sk 9 z z z z z<|sk 10 z z z z z<|sk 11 z z z z z<|sk 12 z z z z z<|tq 13 z z z z<|dn<|?_
     obtain rfl:=Aa hr2
     exact Ay (l':=[(0,u1),(5,(I (List.length a1:Int))),(6,(I x1)),(22,(.bool false))]) ⟨z,z,z,z,Ak⟩<|⟨false,z,z,(Al hB3).below,hC3⟩
    rintro _ w2 ⟨x2,rfl,rfl,hB2,hC2⟩
    try dsimp only at hL1
    refine AL z (fun hc3=>?_) (fun hc3=>?_)
    ·replace hL1:=AD hL1 hc3
     refine Ad<|Af z z<|Ab<|AK<|Bu<|A2<|A2<|Bu<|A2<|A2<|?_
     obtain rfl:=Aa hL1
     dsimp only at hF
     obtain rfl:=Aa hF
     exact AB z z<|⟨_,z,Bf hC2 _⟩
    replace hL1:=AE hL1 hc3
    exact AM<|Bg<|Av<|Bt<|Bw z z z<|Ae z z<|Ab<|Ay (l':=[(0,u1),(5,(I (List.length a1:Int))),(6,(I (w64 (x1+1))))]) ⟨z,z,z,Ak⟩<|⟨k1,AO _,w64 (x1+1),z,((Al hB1).then hB2).below,hC2,hL1⟩
   replace hL1:=AE hL1 hc1
   refine BF (AW (AW (B4 ?_)))
   obtain rfl:=Aa hL1
   exact Ay (l':=[]) Ak<|⟨z,z,(Al hB1).below,hC1⟩
 rintro l3 _ w6 hs3 ⟨rfl,rfl,hB6,hC5⟩
 try dsimp only at hF
 refine Bm hs3 ?_
 clear hs3
 refine Ad<|Af z z<|Ab<|AK<|?_
 obtain rfl:=Aa hF
 exact AB z z<|⟨_,z,Bf hC5 _⟩
theorem c_M_Method_fits_c1 {w0:World} (a1:Int) (pb1:Nat) (ax1:Int) (g1:ROAt [] w0 pb1 0 ax1) (rr:Bool) (hF:M.Method_fits_c1 a1 ax1=some rr) :
 Calls Tryz.prog 111 [(I a1),(ptr pb1 0)].toArray w0 fun e w'=>∃v,e=.returned v∧Res w0 rr v w':=by
 refine A3 Tryz.func111 z z ?_
 have hC0:=AH w0
 unfold M.Method_fits_c1 at hF
 refine Ad<|Af z z<|Ab<|Ad<|Ae z z<|Be ty3 g1 hC0.keep z z fun v1 h1=>?_
 obtain rfl:=BJ h1
 refine BV z z z<|be hF fun x1 hr1 hF=>cb BQ z z (c_M_within a1 0 (w64 (ax1 - 1)) x1 hr1) fun w1 hB1=>have hC1:=hC0.grow hB1;B2 z z<|Af z z<|Ab<|AK<|?_
 obtain rfl:=Aa hF
 exact AB z z<|⟨_,z,Bf hC1 _⟩
theorem c_M_isCost {w0:World} (a1:Int) (rr:Bool) (hF:M.isCost a1=some rr) :
 Calls Tryz.prog 112 [(I a1)].toArray w0 fun e w'=>∃v,e=.returned v∧Res w0 rr v w':=by
 refine A3 Tryz.func112 z z ?_
 have hC0:=AH w0
 unfold M.isCost at hF
 refine Ad<|Af z z<|Ab<|Ad<|Ae z z<|be hF fun x1 hr1 hF=>cb BQ z z (c_M_within a1 0 99 x1 hr1) fun w1 hB1=>have hC1:=hC0.grow hB1;Af z z<|Ab<|AK<|?_
 obtain rfl:=Aa hF
 exact AB z z<|⟨_,z,Bf hC1 _⟩
theorem c_Slices_IndexFunc_Lint_int_M_Method_fits_c1 {w0:World} (a1:(List Int)) (u1:Value) (g1:RO [] w0 u1 a1) (pb1:Nat) (ax1:Int) (g2:ROAt [] w0 pb1 0 ax1) (rr:Int) (hF:Slices.IndexFunc_Lint_int_M_Method_fits_c1 a1 ax1=some rr) :
 Calls Tryz.prog 105 [u1,(.func (.func 111) #[] #[(ptr pb1 0)])].toArray w0 fun e w'=>∃v,e=.returned v∧Res w0 rr v w':=by
 refine A3 Tryz.func105 z z ?_
 have hC0:=AH w0
 unfold Slices.IndexFunc_Lint_int_M_Method_fits_c1 at hF
 refine Ad<|Af z z<|Ab<|AA<|Ad<|Ae z z<|Bo Ap g1 z z<|Ae z z<|Ab<|be hF fun r1 hr1 hF=>Bx (fun l w=>.inl ()=r1∧l=[]∧Below w0.heap.size w0 w∧Ctx [] w0 w []) ?_ ?_
 ·refine Bb<|wS (l':=[(0,u1),(1,(.func (.func 111) #[] #[(ptr pb1 0)])),(7,(I (List.length a1:Int))),(8,(I 0))]) ⟨z,z,z,z,Ak⟩<|BE (fun k l w=>∃x1:Int,l=[(0,u1),(1,(.func (.func 111) #[] #[(ptr pb1 0)])),(7,(I (List.length a1:Int))),(8,(I x1))]∧Below w0.heap.size w0 w∧Ctx [] w0 w []∧Slices.IndexFunc_Lint_int_M_Method_fits_c1_l1 a1 ax1 k x1=some r1) FUEL ⟨0,z,(An _ _),hC0,hr1⟩<|?_
  clear hr1
  rintro k1 _ w1 ⟨x1,rfl,hB1,hC1,hL1⟩
  cases k1 with
  | zero=>rw [Slices.IndexFunc_Lint_int_M_Method_fits_c1_l1] at hL1; cases hL1
  | succ k1 =>
   rw [Slices.IndexFunc_Lint_int_M_Method_fits_c1_l1] at hL1
   refine Ad<|B8 z z z<|Ab<|AA<|AL z (fun hc1=>?_) (fun hc1=>?_)
   ·replace hL1:=AD hL1 hc1
    refine AM<|Av<|AA<|Bb<|Ad<|Ae z z<|Af z z<|Ab<|Ad<|Ae z z<|Ae z z<|Ae z z<|be hL1 fun x2 hx1 hL1=>AZ Ap ty3 g1 hx1 z z z fun b1 o1 h1=>Be ty3 h1 hC1.keep z z fun v1 h2=>?_
    obtain rfl:=BJ h2
    refine be hL1 fun x3 hr2 hL1=>Cw (cap:=[(ptr pb1 0)]) Tryz.call111 z z z (c_M_Method_fits_c1 x2 pb1 ax1 (g2.now hC1.keep) x3 hr2) fun _ w2 hv1=>?_
    obtain ⟨rfl,hB2⟩:=Cx hv1
    have hC2:=hC1.grow hB2
    refine Ab<|AL z (fun hc2=>?_) (fun hc2=>?_)
    ·replace hL1:=AD hL1 hc2
     refine Ad<|Ae z z<|Af z z<|Ab<|AK<|Bu<|A2<|A2<|Bu<|A2<|A2<|?_
     obtain rfl:=Aa hL1
     dsimp only at hF
     obtain rfl:=Aa hF
     exact AB z z<|⟨_,z,B7 hC2 _⟩
    replace hL1:=AE hL1 hc2
    exact AM<|Bg<|Av<|Bt<|Bw z z z<|Ae z z<|Ab<|Ay (l':=[(0,u1),(1,(.func (.func 111) #[] #[(ptr pb1 0)])),(7,(I (List.length a1:Int))),(8,(I (w64 (x1+1))))]) ⟨z,z,z,z,Ak⟩<|⟨k1,AO _,w64 (x1+1),z,((Al hB1).then hB2).below,hC2,hL1⟩
   replace hL1:=AE hL1 hc1
   refine BF (AW (AW (B4 ?_)))
   obtain rfl:=Aa hL1
   exact Ay (l':=[]) Ak<|⟨z,z,(Al hB1).below,hC1⟩
 rintro l2 _ w3 hs2 ⟨rfl,rfl,hB3,hC3⟩
 try dsimp only at hF
 refine Bm hs2 ?_
 clear hs2
 refine Ad<|Af z z<|Ab<|AK<|?_
 obtain rfl:=Aa hF
 exact AB z z<|⟨_,z,B7 hC3 _⟩
theorem c_Slices_ContainsFunc_Lint_int_M_Method_fits_c1 {w0:World} (a1:(List Int)) (u1:Value) (g1:RO [] w0 u1 a1) (pb1:Nat) (ax1:Int) (g2:ROAt [] w0 pb1 0 ax1) (rr:Bool) (hF:Slices.ContainsFunc_Lint_int_M_Method_fits_c1 a1 ax1=some rr) :
 Calls Tryz.prog 93 [u1,(.func (.func 111) #[] #[(ptr pb1 0)])].toArray w0 fun e w'=>∃v,e=.returned v∧Res w0 rr v w':=by
 refine A3 Tryz.func93 z z ?_
 have hC0:=AH w0
 unfold Slices.ContainsFunc_Lint_int_M_Method_fits_c1 at hF
 refine Ad<|Af z z<|Ab<|Ad<|Ae z z<|Ae z z<|be hF fun x1 hr1 hF=>ci Tryz.call105 z z (c_Slices_IndexFunc_Lint_int_M_Method_fits_c1 a1 u1 (g1.now hC0.keep) pb1 ax1 (g2.now hC0.keep) x1 hr1) fun w1 hB1=>have hC1:=hC0.grow hB1;Cu z z z<|Af z z<|Ab<|AK<|?_
 obtain rfl:=Aa hF
 exact AB z z<|⟨_,z,Bf hC1 _⟩
theorem c_M_Method_fits {w0:World} (a1:(Int × (List Int) × Int × Int × Int)) (u1:Value) (g1:RO [] w0 u1 a1.2.1) (a2:Int) (rr:Bool) (hF:M.Method_fits a1 a2=some rr) :
 Calls Tryz.prog 108 [(.agg #[(I a1.1),u1,(I a1.2.2.1),(I a1.2.2.2.1),(I a1.2.2.2.2)]),(I a2)].toArray w0 fun e w'=>∃v,e=.returned v∧Res w0 rr v w':=by
 refine A3 Tryz.func108 z z ?_
 have hC0:=AH w0
 unfold M.Method_fits at hF
 refine Ad<|Bz (cs:=[(I a1.1),u1,(I a1.2.2.1),(I a1.2.2.2.1),(I a1.2.2.2.2)]) hC0 z z z fun b1 w1 hC1 hB1 hN1=>Bz (cs:=[(I a2)]) hC1 z z z fun b2 w2 hC2 hB2 hN2=>Af z z<|Ab<|be hF fun r1 hr1 hF=>BL (fun l w=>∃x1:Bool,x1=r1∧l=[(4,(.bool x1))]∧Below w2.heap.size w2 w∧Ctx [] w0 w []) ?_ ?_
 ·refine Bt<|fd AP A4 z z z z<|Aq hC2 1 z z AU z z<|be hr1 fun x2 hr2 hr1=>cb Tryz.call110 z z (c_M_ascending a1.2.1 u1 (g1.now hC2.keep) x2 hr2) fun w4 hB4=>have hC4:=hC2.grow hB4;Ae z z<|B3 (fun hc1=>?_) (fun hc1=>?_)
  ·replace hr1:=AD hr1 hc1
   refine Ai z z<|fd AP A4 z z z z<|Ai z z<|Aq hC4 1 z z AU z z<|Ai z z<|C3 z z<|be hr1 fun x3 hr3 hr1=>Ai z z<|cb Tryz.call93 z z (c_Slices_ContainsFunc_Lint_int_M_Method_fits_c1 a1.2.1 u1 (g1.now hC4.keep) b2 a2 (hC4.boxAt 0 z repw_int) x3 hr3) fun w5 hB5=>have hC5:=hC4.grow hB5;Ai z z<|B2 z z<|AI z z z<|Ae z z<|B3 (fun hc2=>?_) (fun hc2=>?_)
   ·replace hr1:=AD hr1 hc2
    refine Ai z z<|fd AP Ax z z z z<|Ai z z<|Aq hC5 1 z z A6 z z<|be hr1 fun x4 hr4 hr1=>Ai z z<|cb BQ z z (c_M_within a1.2.2.1 0 9 x4 hr4) fun w6 hB6=>have hC6:=hC5.grow hB6;AI z z z<|Ae z z<|B3 (fun hc3=>?_) (fun hc3=>?_)
    ·replace hr1:=AD hr1 hc3
     refine Ai z z<|fd AP Ax z z z z<|Ai z z<|Aq hC6 1 z z A6 z z<|be hr1 fun x5 hr5 hr1=>Ai z z<|cb Tryz.call112 z z (c_M_isCost a1.2.2.2.1 x5 hr5) fun w7 hB7=>have hC7:=hC6.grow hB7;AI z z z<|Ae z z<|B3 (fun hc4=>?_) (fun hc4=>?_)
     ·replace hr1:=AD hr1 hc4
      refine Ai z z<|fd AP Ax z z z z<|Ai z z<|Aq hC7 1 z z A6 z z<|be hr1 fun x6 hr6 hr1=>Ai z z<|cb BQ z z (c_M_within a1.2.2.2.2 1 99 x6 hr6) fun w9 hB8=>have hC8:=hC7.grow hB8;AI z z z<|Af z z<|Ab<|?_
      obtain rfl:=Aa hr1
      have hC9:=hC8.h0
      exact Ay (l':=[(4,(.bool x6))]) ⟨z,Ak⟩<|⟨x6,z,z,(((((Al hB4).then hB5).then hB6).then hB7).then hB8).below,hC9⟩
     replace hr1:=AE hr1 hc4
     refine gs z z z z<|gs z z z z<|gs z z z z<|AY z z z<|Af z z<|Ab<|?_
     obtain rfl:=Aa hr1
     have hC10:=hC7.h0
     exact Ay (l':=[(4,(.bool false))]) ⟨z,Ak⟩<|⟨false,z,z,((((Al hB4).then hB5).then hB6).then hB7).below,hC10⟩
    replace hr1:=AE hr1 hc3
    refine gs z z z z<|gs z z z z<|gs z z z z<|AY z z z<|Ae z z<|gs z z z z<|gs z z z z<|gs z z z z<|AY z z z<|Af z z<|Ab<|?_
    obtain rfl:=Aa hr1
    have hC11:=hC6.h0
    exact Ay (l':=[(4,(.bool false))]) ⟨z,Ak⟩<|⟨false,z,z,(((Al hB4).then hB5).then hB6).below,hC11⟩
   replace hr1:=AE hr1 hc2
   refine gs z z z z<|gs z z z z<|gs z z z z<|AY z z z<|Ae z z<|gs z z z z<|gs z z z z<|gs z z z z<|AY z z z<|Ae z z<|gs z z z z<|gs z z z z<|gs z z z z<|AY z z z<|Af z z<|Ab<|?_
   obtain rfl:=Aa hr1
   have hC12:=hC5.h0
   exact Ay (l':=[(4,(.bool false))]) ⟨z,Ak⟩<|⟨false,z,z,((Al hB4).then hB5).below,hC12⟩
  replace hr1:=AE hr1 hc1
  refine gs z z z z<|gs z z z z<|gs z z z z<|gs z z z z<|gs z z z z<|AY z z z<|Ae z z<|gs z z z z<|gs z z z z<|gs z z z z<|AY z z z<|Ae z z<|gs z z z z<|gs z z z z<|gs z z z z<|AY z z z<|Ae z z<|gs z z z z<|gs z z z z<|gs z z z z<|AY z z z<|Af z z<|Ab<|?_
  obtain rfl:=Aa hr1
  have hC13:=hC4.h0
  exact Ay (l':=[(4,(.bool false))]) ⟨z,Ak⟩<|⟨false,z,z,(Al hB4).below,hC13⟩
 rintro _ w3 ⟨x1,rfl,rfl,hB3,hC3⟩
 try dsimp only at hF
 refine AK ?_
 obtain rfl:=Aa hF
 exact AB z z<|⟨_,z,Bf hC3 _⟩
theorem c_M_IsMethod {w0:World} (a1:(List Int)) (u1:Value) (g1:RO [] w0 u1 a1) (a2:(Int × (List Int) × Int × Int × Int)) (u2:Value) (g2:RO [] w0 u2 a2.2.1) (rr:Bool) (hF:M.IsMethod a1 a2=some rr) :
 Calls Tryz.prog 102 [u1,(.agg #[(I a2.1),u2,(I a2.2.2.1),(I a2.2.2.2.1),(I a2.2.2.2.2)])].toArray w0 fun e w'=>∃v,e=.returned v∧Res w0 rr v w':=by
 refine A3 Tryz.func102 z z ?_
 have hC0:=AH w0
 unfold M.IsMethod at hF
 refine Ad<|Bz (cs:=[(I a2.1),u2,(I a2.2.2.1),(I a2.2.2.2.1),(I a2.2.2.2.2)]) hC0 z z z fun b1 w1 hC1 hB1 hN1=>Af z z<|Ab<|be hF fun r1 hr1 hF=>BL (fun l w=>∃x1:Bool,x1=r1∧l=[(4,(.bool x1))]∧Below w1.heap.size w1 w∧Ctx [] w0 w []) ?_ ?_
 ·refine W_drawn 14 z hmix fun w3 hB3=>have hC3:=hC1.grow hB3;tm 0 z z z<|tf 1 AP Ax z z z z z<|oe 2 z<|Aq hC3 0 z z A6 z z<|Ab<|be hr1 fun x2 hr2 hr1=>oe 3 z<|cb Tryz.call70 z z (c_M_hasRel a1 u1 (g1.now hC3.keep) a2.1 x2 hr2) fun w4 hB4=>have hC4:=hC3.grow hB4;Ab<|tm 4 z z z<|BO (fun hc1=>?_) (fun hc1=>?_)
  ·replace hr1:=AD hr1 hc1
   refine tn 6 z z z z z<|tg 7 z z z z (BB AP z z (fun w=>⟨_,Ax w⟩) z)<|Ai z z<|fd AP Ax z z z z<|Ab<|be hr1 fun x3 hx1 hr1=>wAS (l':=[(0,u1),(1,(.agg #[(I a2.1),u2,(I a2.2.2.1),(I a2.2.2.2.1),(I a2.2.2.2.2)])),(3,(ptr b1 0)),(4,(.bool false)),(5,u1),(6,(ptr b1 0)),(7,(I a2.1)),(8,(.bool x2)),(9,(.bool true)),(11,u1),(12,(ptr b1 0))]) ⟨z,z,z,z,z,z,z,z,z,z,z,Ak⟩<|Bq [⟨5,[],fun vs=>AR (.agg #[(I a2.1),u2,(I a2.2.2.1),(I a2.2.2.2.1),(I a2.2.2.2.2)]),[]⟩,⟨8,[],fun vs=>AR (I a2.1),[]⟩,⟨9,[],fun vs=>Cc [] w0 x3,[]⟩,⟨10,[],fun vs=>AR (I x3),[]⟩] [[],[],[8],[9]] 3 z (by kernel_rfl) (by kernel_rfl) z ?_ ?_
   ·refine Am z ?_ ?_
    ·intro w5 hB5
     refine Aw<|⟨_,z,?_⟩
     exact Ai z z<|At [(I a2.1),u2,(I a2.2.2.1),(I a2.2.2.2.1),(I a2.2.2.2.2)] (hC4.grow hB5) 0 z z z Ce BC z z<|Ab<|A0 (An _ _) z z ⟨z,z⟩
    refine Am z ?_ ?_
    ·intro w5 hB5
     refine Aw<|⟨_,z,?_⟩
     exact Ai z z<|Aq (hC4.grow hB5) 0 z z A6 z z<|Ab<|A0 (An _ _) z z ⟨z,z⟩
    refine Am z ?_ ?_
    ·intro w5 hB5
     refine A7 z z z ?_
     rintro _ _ ⟨rfl,rfl⟩ _
     refine Aw<|⟨_,z,?_⟩
     exact Ai z z<|AZ Ap ty3 g1 hx1 z z z fun b2 o1 h1=>Ab<|A0 (An _ _) z z ⟨z,_,_,z,h1⟩
    refine Am z ?_ ?_
    ·intro w5 hB5
     refine A7 z z z ?_
     rintro _ _ ⟨rfl,b2,o1,rfl,h1⟩ _
     refine Aw<|⟨_,z,?_⟩
     refine Ai z z<|Be ty3 h1 (hC4.keep.then hB5) z z fun v1 h2=>?_
     obtain rfl:=BJ h2
     exact Ab<|A0 (An _ _) z z ⟨z,z⟩
    exact Ba
   intro w6 hB6
   refine Au z z z ?_
   rintro _ _ ⟨rfl,rfl⟩
   refine Au z z z ?_
   rintro _ _ ⟨rfl,rfl⟩
   refine Au z z z ?_
   rintro _ _ ⟨rfl,b2,o1,rfl,h1⟩
   refine Au z z z ?_
   rintro _ _ ⟨rfl,rfl⟩
   refine Bh fun hn1 hb1=>have hC5:=hC4.grow hB6;be hr1 fun x4 hr3 hr1=>oe 11 z<|Ai z z<|cb Tryz.call108 z z (c_M_Method_fits (a2.1,a2.2.1,a2.2.2.1,a2.2.2.2.1,a2.2.2.2.2) u2 (g2.now hC5.keep) x3 x4 hr3) fun w7 hB7=>have hC6:=hC5.grow hB7;Ab<|tp 12 z z z z<|ta 13 z z z<|dn<|?_
   obtain rfl:=Aa hr1
   have hC7:=hC6.h0
   exact Ay (l':=[(4,(.bool x4))]) ⟨z,Ak⟩<|⟨x4,z,z,((((Al hB3).then hB4).then hB6).then hB7).below,hC7⟩
  replace hr1:=AE hr1 hc1
  refine sk 5 z z z z z<|sk 6 z z z z z<|sk 7 z z z z z<|sk 8 z z z z z<|sk 9 z z z z z<|sk 10 z z z z z<|sk 11 z z z z z<|tq 12 z z z z<|ta 13 z z z<|dn<|?_
  obtain rfl:=Aa hr1
  have hC8:=hC4.h0
  exact Ay (l':=[(4,(.bool false))]) ⟨z,Ak⟩<|⟨false,z,z,((Al hB3).then hB4).below,hC8⟩
 rintro _ w2 ⟨x1,rfl,rfl,hB2,hC2⟩
 try dsimp only at hF
 refine AK ?_
 obtain rfl:=Aa hF
 exact AB z z<|⟨_,z,Bf hC2 _⟩
theorem c_M_AreMethods_c1 {w0:World} (a1:(Int × (List Int) × Int × Int × Int)) (u1:Value) (g1:RO [] w0 u1 a1.2.1) (pb1:Nat) (ax1:(List Int)) (g2:ROAt [] w0 pb1 0 ax1) (rr:Bool) (hF:M.AreMethods_c1 a1 ax1=some rr) :
 Calls Tryz.prog 101 [(.agg #[(I a1.1),u1,(I a1.2.2.1),(I a1.2.2.2.1),(I a1.2.2.2.2)]),(ptr pb1 0)].toArray w0 fun e w'=>∃v,e=.returned v∧Res w0 rr v w':=by
 refine A3 Tryz.func101 z z ?_
 have hC0:=AH w0
 unfold M.AreMethods_c1 at hF
 refine Ad<|Bz (cs:=[(I a1.1),u1,(I a1.2.2.1),(I a1.2.2.2.1),(I a1.2.2.2.2)]) hC0 z z z fun b1 w1 hC1 hB1 hN1=>Af z z<|Ab<|Ad<|Be ty24 g2 hC1.keep z z fun v1 h1=>At [(I a1.1),u1,(I a1.2.2.1),(I a1.2.2.2.1),(I a1.2.2.2.2)] hC1 0 z z z Ce BC z z<|be hF fun x1 hr1 hF=>cb Tryz.call102 z z (c_M_IsMethod ax1 v1 (h1.now hC1.keep) (a1.1,a1.2.1,a1.2.2.1,a1.2.2.2.1,a1.2.2.2.2) u1 (g1.now hC1.keep) x1 hr1) fun w2 hB2=>have hC2:=hC1.grow hB2;B2 z z<|Af z z<|Ab<|AK<|?_
 obtain rfl:=Aa hF
 exact AB z z<|⟨_,z,Bf hC2 _⟩
theorem c_Slices_IndexFunc_Limpl_Method_impl_Method_M_AreMethods_c1 {w0:World} (a1:(List (Int × (List Int) × Int × Int × Int))) (u1:Value) (g1:RO [] w0 u1 a1) (pb1:Nat) (ax1:(List Int)) (g2:ROAt [] w0 pb1 0 ax1) (rr:Int) (hF:Slices.IndexFunc_Limpl_Method_impl_Method_M_AreMethods_c1 a1 ax1=some rr) :
 Calls Tryz.prog 107 [u1,(.func (.func 101) #[] #[(ptr pb1 0)])].toArray w0 fun e w'=>∃v,e=.returned v∧Res w0 rr v w':=by
 refine A3 Tryz.func107 z z ?_
 have hC0:=AH w0
 unfold Slices.IndexFunc_Limpl_Method_impl_Method_M_AreMethods_c1 at hF
 refine Ad<|Af z z<|Ab<|AA<|Ad<|Ae z z<|Bo Bi g1 z z<|Ae z z<|Ab<|be hF fun r1 hr1 hF=>Bx (fun l w=>.inl ()=r1∧l=[]∧Below w0.heap.size w0 w∧Ctx [] w0 w []) ?_ ?_
 ·refine Bb<|wS (l':=[(0,u1),(1,(.func (.func 101) #[] #[(ptr pb1 0)])),(7,(I (List.length a1:Int))),(8,(I 0))]) ⟨z,z,z,z,Ak⟩<|BE (fun k l w=>∃x1:Int,l=[(0,u1),(1,(.func (.func 101) #[] #[(ptr pb1 0)])),(7,(I (List.length a1:Int))),(8,(I x1))]∧Below w0.heap.size w0 w∧Ctx [] w0 w []∧Slices.IndexFunc_Limpl_Method_impl_Method_M_AreMethods_c1_l1 a1 ax1 k x1=some r1) FUEL ⟨0,z,(An _ _),hC0,hr1⟩<|?_
  clear hr1
  rintro k1 _ w1 ⟨x1,rfl,hB1,hC1,hL1⟩
  cases k1 with
  | zero=>rw [Slices.IndexFunc_Limpl_Method_impl_Method_M_AreMethods_c1_l1] at hL1; cases hL1
  | succ k1 =>
   rw [Slices.IndexFunc_Limpl_Method_impl_Method_M_AreMethods_c1_l1] at hL1
   refine Ad<|B8 z z z<|Ab<|AA<|AL z (fun hc1=>?_) (fun hc1=>?_)
   ·replace hL1:=AD hL1 hc1
    refine AM<|Av<|AA<|Bb<|Ad<|Ae z z<|Af z z<|Ab<|Ad<|Ae z z<|Ae z z<|Ae z z<|be hL1 fun x2 hx1 hL1=>AZ Bi ty93 g1 hx1 z z z fun b1 o1 h1=>Be ty93 h1 hC1.keep z z fun v1 h2=>?_
    obtain ⟨v2,rfl,h3⟩:=CN h2
    refine be hL1 fun x3 hr2 hL1=>Cw (cap:=[(ptr pb1 0)]) Tryz.call101 z z z (c_M_AreMethods_c1 x2 v2 (h3.now hC1.keep) pb1 ax1 (g2.now hC1.keep) x3 hr2) fun _ w2 hv1=>?_
    obtain ⟨rfl,hB2⟩:=Cx hv1
    have hC2:=hC1.grow hB2
    refine Ab<|AL z (fun hc2=>?_) (fun hc2=>?_)
    ·replace hL1:=AD hL1 hc2
     refine Ad<|Ae z z<|Af z z<|Ab<|AK<|Bu<|A2<|A2<|Bu<|A2<|A2<|?_
     obtain rfl:=Aa hL1
     dsimp only at hF
     obtain rfl:=Aa hF
     exact AB z z<|⟨_,z,B7 hC2 _⟩
    replace hL1:=AE hL1 hc2
    exact AM<|Bg<|Av<|Bt<|Bw z z z<|Ae z z<|Ab<|Ay (l':=[(0,u1),(1,(.func (.func 101) #[] #[(ptr pb1 0)])),(7,(I (List.length a1:Int))),(8,(I (w64 (x1+1))))]) ⟨z,z,z,z,Ak⟩<|⟨k1,AO _,w64 (x1+1),z,((Al hB1).then hB2).below,hC2,hL1⟩
   replace hL1:=AE hL1 hc1
   refine BF (AW (AW (B4 ?_)))
   obtain rfl:=Aa hL1
   exact Ay (l':=[]) Ak<|⟨z,z,(Al hB1).below,hC1⟩
 rintro l2 _ w3 hs2 ⟨rfl,rfl,hB3,hC3⟩
 try dsimp only at hF
 refine Bm hs2 ?_
 clear hs2
 refine Ad<|Af z z<|Ab<|AK<|?_
 obtain rfl:=Aa hF
 exact AB z z<|⟨_,z,B7 hC3 _⟩
theorem c_Slices_ContainsFunc_Limpl_Method_impl_Method_M_AreMethods_c1 {w0:World} (a1:(List (Int × (List Int) × Int × Int × Int))) (u1:Value) (g1:RO [] w0 u1 a1) (pb1:Nat) (ax1:(List Int)) (g2:ROAt [] w0 pb1 0 ax1) (rr:Bool) (hF:Slices.ContainsFunc_Limpl_Method_impl_Method_M_AreMethods_c1 a1 ax1=some rr) :
 Calls Tryz.prog 100 [u1,(.func (.func 101) #[] #[(ptr pb1 0)])].toArray w0 fun e w'=>∃v,e=.returned v∧Res w0 rr v w':=by
 refine A3 Tryz.func100 z z ?_
 have hC0:=AH w0
 unfold Slices.ContainsFunc_Limpl_Method_impl_Method_M_AreMethods_c1 at hF
 refine Ad<|Af z z<|Ab<|Ad<|Ae z z<|Ae z z<|be hF fun x1 hr1 hF=>ci Tryz.call107 z z (c_Slices_IndexFunc_Limpl_Method_impl_Method_M_AreMethods_c1 a1 u1 (g1.now hC0.keep) pb1 ax1 (g2.now hC0.keep) x1 hr1) fun w1 hB1=>have hC1:=hC0.grow hB1;Cu z z z<|Af z z<|Ab<|AK<|?_
 obtain rfl:=Aa hF
 exact AB z z<|⟨_,z,Bf hC1 _⟩
theorem c_M_AreMethods {w0:World} (a1:(List Int)) (u1:Value) (g1:RO [] w0 u1 a1) (a2:(List (Int × (List Int) × Int × Int × Int))) (u2:Value) (g2:RO [] w0 u2 a2) (rr:Bool) (hF:M.AreMethods a1 a2=some rr) :
 Calls Tryz.prog 81 [u1,u2].toArray w0 fun e w'=>∃v,e=.returned v∧Res w0 rr v w':=by
 refine A3 Tryz.func81 z z ?_
 have hC0:=AH w0
 unfold M.AreMethods at hF
 refine Ad<|Bz (cs:=[u1]) hC0 (Ca g1) z z fun b1 w1 hC1 hB1 hN1=>Af z z<|Ab<|be hF fun r1 hr1 hF=>BL (fun l w=>∃x1:Bool,x1=r1∧l=[(4,(.bool x1))]∧Below w1.heap.size w1 w∧Ctx [] w0 w []) ?_ ?_
 ·refine Bt<|Aq hC1 0 z z AU z z<|be hr1 fun x2 hr2 hr1=>cb Tryz.call80 z z (c_M_IsSchema a1 u1 (g1.now hC1.keep) x2 hr2) fun w3 hB3=>have hC3:=hC1.grow hB3;Ae z z<|B3 (fun hc1=>?_) (fun hc1=>?_)
  ·replace hr1:=AD hr1 hc1
   refine Ai z z<|Ae z z<|Ai z z<|Bo Bi g2 z z<|Ai z z<|CE z z z<|AI z z z<|Ae z z<|B3 (fun hc2=>?_) (fun hc2=>?_)
   ·replace hr1:=AD hr1 hc2
    refine Ai z z<|Ae z z<|Ai z z<|C3 z z<|be hr1 fun x3 hr3 hr1=>Ai z z<|cb Tryz.call100 z z (c_Slices_ContainsFunc_Limpl_Method_impl_Method_M_AreMethods_c1 a2 u2 (g2.now hC3.keep) b1 a1 (hC3.boxAt 0 z (repw_slice (g1.now hC3.keep))) x3 hr3) fun w4 hB4=>have hC4:=hC3.grow hB4;Ai z z<|B2 z z<|AI z z z<|Af z z<|Ab<|?_
    obtain rfl:=Aa hr1
    have hC5:=hC4.h0
    exact Ay (l':=[(4,(.bool (!x3)))]) ⟨z,Ak⟩<|⟨(!x3),z,z,((Al hB3).then hB4).below,hC5⟩
   replace hr1:=AE hr1 hc2
   refine gs z z z z<|gs z z z z<|gs z z z z<|gs z z z z<|AY z z z<|Af z z<|Ab<|?_
   obtain rfl:=Aa hr1
   have hC6:=hC3.h0
   exact Ay (l':=[(4,(.bool false))]) ⟨z,Ak⟩<|⟨false,z,z,(Al hB3).below,hC6⟩
  replace hr1:=AE hr1 hc1
  refine gs z z z z<|gs z z z z<|gs z z z z<|AY z z z<|Ae z z<|gs z z z z<|gs z z z z<|gs z z z z<|gs z z z z<|AY z z z<|Af z z<|Ab<|?_
  obtain rfl:=Aa hr1
  have hC7:=hC3.h0
  exact Ay (l':=[(4,(.bool false))]) ⟨z,Ak⟩<|⟨false,z,z,(Al hB3).below,hC7⟩
 rintro _ w2 ⟨x1,rfl,rfl,hB2,hC2⟩
 try dsimp only at hF
 refine AK ?_
 obtain rfl:=Aa hF
 exact AB z z<|⟨_,z,Bf hC2 _⟩
theorem c_M_IsAccess {w0:World} (a1:(List Int)) (u1:Value) (g1:RO [] w0 u1 a1) (a2:(List (Int × (List Int) × Int × Int × Int))) (u2:Value) (g2:RO [] w0 u2 a2) (a3:(Int × (List Int))) (u3:Value) (g3:RO [] w0 u3 a3.2) (rr:Bool) (hF:M.IsAccess a1 a2 a3=some rr) :
 Calls Tryz.prog 50 [u1,u2,(.agg #[(I a3.1),u3])].toArray w0 fun e w'=>∃v,e=.returned v∧Res w0 rr v w':=by
 refine A3 Tryz.func50 z z ?_
 have hC0:=AH w0
 unfold M.IsAccess at hF
 refine Ad<|Bz (cs:=[(I a3.1),u3]) hC0 z z z fun b1 w1 hC1 hB1 hN1=>Af z z<|Ab<|be hF fun r1 hr1 hF=>BL (fun l w=>∃x1:Bool,x1=r1∧l=[(6,(.bool x1))]∧Below w1.heap.size w1 w∧Ctx [] w0 w []) ?_ ?_
 ·refine W_drawn 30 z hmix fun w3 hB3=>have hC3:=hC1.grow hB3;tm 0 z z z<|tm 1 z z z<|be hr1 fun x2 hr2 hr1=>oe 2 z<|cb Tryz.call81 z z (c_M_AreMethods a1 u1 (g1.now hC3.keep) a2 u2 (g2.now hC3.keep) x2 hr2) fun w4 hB4=>have hC4:=hC3.grow hB4;Ab<|tm 3 z z z<|BO (fun hc1=>?_) (fun hc1=>?_)
  ·replace hr1:=AD hr1 hc1
   refine tg 4 z z z z (BB AV z z (fun w=>⟨_,Ax w⟩) z)<|Ai z z<|fd AV Ax z z z z<|Ab<|tn 6 z z z z z<|tg 7 z z z z (CO Bi g2 z)<|Ai z z<|Bo Bi g2 z z<|Ab<|tg 8 z z z z (Cz z z)<|Ai z z<|BV z z z<|Ab<|oe 5 z<|Ai z z<|Aq hC4 0 z z A6 z z<|Ab<|be hr1 fun x3 hr3 hr1=>oe 9 z<|Ai z z<|cb BQ z z (c_M_within a3.1 0 (w64 ((List.length a2:Int) - 1)) x3 hr3) fun w5 hB5=>have hC5:=hC4.grow hB5;Ab<|tp 10 z z z z<|tm 11 z z z<|BO (fun hc2=>?_) (fun hc2=>?_)
   ·replace hr1:=AD hr1 hc2
    refine tg 12 z z z z (BB AV z z (fun w=>⟨_,A4 w⟩) z)<|Ai z z<|fd AV A4 z z z z<|Ab<|tn 15 z z z z z<|tg 16 z z z z (BB AV z z (fun w=>⟨_,Ax w⟩) z)<|Ai z z<|fd AV Ax z z z z<|Ab<|be hr1 fun x4 hx1 hr1=>wAS (l':=[(0,u1),(1,u2),(2,(.agg #[(I a3.1),u3])),(5,(ptr b1 0)),(6,(.bool false)),(7,u1),(8,u2),(9,(.bool x2)),(10,(.bool true)),(11,(ptr b1 0)),(12,(I a3.1)),(13,u2),(14,(I (List.length a2:Int))),(15,(I (w64 ((List.length a2:Int) - 1)))),(16,(.bool x3)),(17,(.bool x3)),(18,(.bool true)),(19,(ptr b1 1)),(22,u2),(23,(ptr b1 0))]) ⟨z,z,z,z,z,z,z,z,z,z,z,z,z,z,z,z,z,z,z,z,Ak⟩<|Bq [⟨13,[],fun vs=>AR u3,[]⟩,⟨14,[],fun vs=>AR (I (List.length a3.2:Int)),[]⟩,⟨17,[],fun vs=>AR (I a3.1),[]⟩,⟨18,[],fun vs=>Cc [] w0 x4,[]⟩,⟨19,[],fun vs=>Cc [] w0 x4.2.1,[]⟩,⟨20,[],fun vs=>Cs [] w0 x4.2.1,[]⟩,⟨21,[],fun vs=>AR (I (List.length x4.2.1:Int)),[]⟩] [[],[13],[],[17],[18],[19],[20]] 8 z (by kernel_rfl) (by kernel_rfl) z ?_ ?_
    ·refine Am z ?_ ?_
     ·intro w6 hB6
      refine Aw<|⟨_,z,?_⟩
      exact Ai z z<|Aq (hC5.grow hB6) 0 z z AU z z<|Ab<|A0 (An _ _) z z ⟨z,z⟩
     refine Am z ?_ ?_
     ·intro w6 hB6
      refine A7 z z z ?_
      rintro _ _ ⟨rfl,rfl⟩ _
      refine Aw<|⟨_,z,?_⟩
      exact Ai z z<|Bo Ap g3 z z<|Ab<|A0 (An _ _) z z ⟨z,z⟩
     refine Am z ?_ ?_
     ·intro w6 hB6
      refine Aw<|⟨_,z,?_⟩
      exact Ai z z<|Aq (hC5.grow hB6) 0 z z A6 z z<|Ab<|A0 (An _ _) z z ⟨z,z⟩
     refine Am z ?_ ?_
     ·intro w6 hB6
      refine A7 z z z ?_
      rintro _ _ ⟨rfl,rfl⟩ _
      refine Aw<|⟨_,z,?_⟩
      exact Ai z z<|AZ Bi ty93 g2 hx1 z z z fun b2 o1 h1=>Ab<|A0 (An _ _) z z ⟨z,_,_,z,h1⟩
     refine Am z ?_ ?_
     ·intro w6 hB6
      refine A7 z z z ?_
      rintro _ _ ⟨rfl,b2,o1,rfl,h1⟩ _
      refine Aw<|⟨_,z,?_⟩
      exact Ai z z<|fd AP A4 z z z z<|Ab<|A0 (An _ _) z z ⟨z,_,_,z,h1.snd.fst⟩
     refine Am z ?_ ?_
     ·intro w6 hB6
      refine A7 z z z ?_
      rintro _ _ ⟨rfl,b3,o2,rfl,h2⟩ _
      refine Aw<|⟨_,z,?_⟩
      exact Ai z z<|Be ty24 h2 (hC5.keep.then hB6) z z fun v1 h3=>Ab<|A0 (An _ _) z z ⟨z,h3⟩
     refine Am z ?_ ?_
     ·intro w6 hB6
      refine A7 z z z ?_
      rintro v1 _ ⟨rfl,h3⟩ _
      refine Aw<|⟨_,z,?_⟩
      exact Ai z z<|Bo Ap h3 z z<|Ab<|A0 (An _ _) z z ⟨z,z⟩
     exact Ba
    intro w7 hB7
    refine Au z z z ?_
    rintro _ _ ⟨rfl,rfl⟩
    refine Au z z z ?_
    rintro _ _ ⟨rfl,rfl⟩
    refine Au z z z ?_
    rintro _ _ ⟨rfl,rfl⟩
    refine Au z z z ?_
    rintro _ _ ⟨rfl,b2,o1,rfl,h1⟩
    refine Au z z z ?_
    rintro _ _ ⟨rfl,b3,o2,rfl,h2⟩
    refine Au z z z ?_
    rintro v1 _ ⟨rfl,h3⟩
    refine Au z z z ?_
    rintro _ _ ⟨rfl,rfl⟩
    refine Bh fun hn1 hb1=>have hC6:=hC5.grow hB7;tg 22 z z z z (fl_eql z z)<|Ai z z<|BP z z z<|Ab<|tp 23 z z z z<|tm 24 z z z<|BO (fun hc3=>?_) (fun hc3=>?_)
    ·replace hr1:=AD hr1 hc3
     refine tg 25 z z z z (BB AV z z (fun w=>⟨_,A4 w⟩) z)<|Ai z z<|fd AV A4 z z z z<|Ab<|oe 26 z<|Ai z z<|Aq hC6 0 z z AU z z<|Ab<|be hr1 fun x5 hr4 hr1=>oe 27 z<|Ai z z<|cb Tryz.call71 z z (c_M_areValues a3.2 u3 (g3.now hC6.keep) x5 hr4) fun w9 hB8=>have hC7:=hC6.grow hB8;Ab<|tp 28 z z z z<|ta 29 z z z<|dn<|?_
     obtain rfl:=Aa hr1
     have hC8:=hC7.h0
     exact Ay (l':=[(6,(.bool x5))]) ⟨z,Ak⟩<|⟨x5,z,z,(((((Al hB3).then hB4).then hB5).then hB7).then hB8).below,hC8⟩
    replace hr1:=AE hr1 hc3
    refine sk 25 z z z z z<|sk 26 z z z z z<|sk 27 z z z z z<|tq 28 z z z z<|ta 29 z z z<|dn<|?_
    obtain rfl:=Aa hr1
    have hC9:=hC6.h0
    exact Ay (l':=[(6,(.bool false))]) ⟨z,Ak⟩<|⟨false,z,z,((((Al hB3).then hB4).then hB5).then hB7).below,hC9⟩
   replace hr1:=AE hr1 hc2
   refine sk 12 z z z z z<|sk 13 z z z z z<|sk 14 z z z z z<|sk 15 z z z z z<|sk 16 z z z z z<|sk 17 z z z z z<|sk 18 z z z z z<|sk 19 z z z z z<|sk 20 z z z z z<|sk 21 z z z z z<|sk 22 z z z z z<|tq 23 z z z z<|tm 24 z z z<|sk 25 z z z z z<|sk 26 z z z z z<|sk 27 z z z z z<|tq 28 z z z z<|ta 29 z z z<|dn<|?_
   obtain rfl:=Aa hr1
   have hC10:=hC5.h0
   exact Ay (l':=[(6,(.bool false))]) ⟨z,Ak⟩<|⟨false,z,z,(((Al hB3).then hB4).then hB5).below,hC10⟩
  replace hr1:=AE hr1 hc1
  refine sk 4 z z z z z<|sk 5 z z z z z<|sk 6 z z z z z<|sk 7 z z z z z<|sk 8 z z z z z<|sk 9 z z z z z<|tq 10 z z z z<|tm 11 z z z<|sk 12 z z z z z<|sk 13 z z z z z<|sk 14 z z z z z<|sk 15 z z z z z<|sk 16 z z z z z<|sk 17 z z z z z<|sk 18 z z z z z<|sk 19 z z z z z<|sk 20 z z z z z<|sk 21 z z z z z<|sk 22 z z z z z<|tq 23 z z z z<|tm 24 z z z<|sk 25 z z z z z<|sk 26 z z z z z<|sk 27 z z z z z<|tq 28 z z z z<|ta 29 z z z<|dn<|?_
  obtain rfl:=Aa hr1
  have hC11:=hC4.h0
  exact Ay (l':=[(6,(.bool false))]) ⟨z,Ak⟩<|⟨false,z,z,((Al hB3).then hB4).below,hC11⟩
 rintro _ w2 ⟨x1,rfl,rfl,hB2,hC2⟩
 try dsimp only at hF
 refine AK ?_
 obtain rfl:=Aa hF
 exact AB z z<|⟨_,z,Bf hC2 _⟩
theorem c_M_copyAccess {w0:World} (a1:(Int × (List Int))) (u1:Value) (g1:RO [] w0 u1 a1.2) (rr:(Int × (List Int))) (hF:M.copyAccess a1=some rr) :
 Calls Tryz.prog 51 [(.agg #[(I a1.1),u1])].toArray w0 fun e w'=>∃v,e=.returned v∧Res w0 rr v w':=by
 refine A3 Tryz.func51 z z ?_
 have hC0:=AH w0
 unfold M.copyAccess at hF
 refine Ad<|Bz (cs:=[(I a1.1),u1]) hC0 z z z fun b1 w1 hC1 hB1 hN1=>Bd hC1 zero45 z z fun b2 w2 hC2 hB2 hN2=>Ab<|AA<|W_drawn 7 z hmix fun w3 hB3=>have hC3:=hC2.grow hB3;tf 0 AV Ax z z z z z<|tf 2 AV A4 z z z z z<|be hF fun x1 hr1 hF=>wAS (l':=[(0,(.agg #[(I a1.1),u1])),(1,(ptr b1 0)),(2,(ptr b2 0)),(3,(ptr b1 0)),(5,(ptr b1 1))]) ⟨z,z,z,z,z,Ak⟩<|Bq [⟨1,[],fun vs=>AR (I a1.1),[]⟩,⟨3,[],fun vs=>AR u1,[]⟩,⟨4,[],fun vs=>Cv x1,[]⟩] [[],[],[3]] 2 z (by kernel_rfl) (by kernel_rfl) z ?_ ?_
 ·refine Am z ?_ ?_
  ·intro w5 hB5
   refine Aw<|⟨_,z,?_⟩
   exact Aq (hC3.grow hB5) 1 z z A6 z z<|Ab<|A0 (An _ _) z z ⟨z,z⟩
  refine Am z ?_ ?_
  ·intro w5 hB5
   refine Aw<|⟨_,z,?_⟩
   exact Aq (hC3.grow hB5) 1 z z AU z z<|Ab<|A0 (An _ _) z z ⟨z,z⟩
  refine Am z ?_ ?_
  ·intro w5 hB5
   refine A7 z z z ?_
   rintro _ _ ⟨rfl,rfl⟩ _
   refine Aw<|⟨_,z,?_⟩
   refine AJ Tryz.call82 z z (c_Slices_Clone_Lint_int a1.2 u1 (g1.now (hC3.keep.then hB5)) x1 hr1) ?_
   rintro v1 w4 ⟨hB4,F1,hv1,hn1,hb1⟩
   exact Ab<|Cq hB4 z z hv1 hn1 hb1 (Val.inh hv1)
  exact Ba
 intro w6 hB6
 refine Au z z z ?_
 rintro _ _ ⟨rfl,rfl⟩
 refine Au z z z ?_
 rintro _ _ ⟨rfl,rfl⟩
 refine Au z z z fun v1 F1 hv1=>Bh fun hn2 hb2=>?_
 have hC4:=hC3.pushL hB6 (Bs:=[Ag v1 (x1:(List Int))]) (Fs:=[F1]) ⟨F1,_,z,hv1,z⟩ (by simpa using hn2) (fun b h=>(hb2 b (by simpa using h)).1)
 refine tk 5 z z (Cp (vs:=[(0,(I a1.1)),(1,v1)]) z z (built45_0_1 z (Ca (hC4.ro 0 z))))<|BD (vs:=[(0,(I a1.1)),(1,v1)]) z z z (built45_0_1 z (Ca (hC4.ro 0 z)))<|Ab<|oe 6 z<|Aj (cs':=[(I a1.1),v1]) (new:=[(I a1.1),v1]) hC4 1 z z (fac z<|fac (AT (hC4.ro 0 z))<|fa0) z A9 z z fun w7 hC5 hKp1=>?_
 try dsimp only [List.set] at hC5
 have hk1:=Ar ((((Al hB1).then hB2).then hB3).then hB6) (Ao (Al hB1).size hN2) hKp1
 have hk2:=Ar (((Al hB2).then hB3).then hB6) hN2 hKp1
 refine Ab<|dn<|Av<|AK<|?_
 obtain rfl:=Aa hF
 refine BR z (rv_cell_agg (cs':=[(I a1.1),v1]) hC5 (i:=1) z z z Bl A9 z) ?_
 have hC6:=own_st45 a1.1 v1 x1 hC5
 exact ⟨_,z,Cf hC6 0 z⟩
theorem c_M_OpenCursor {w0:World} (a1:(List Int)) (u1:Value) (g1:RO [] w0 u1 a1) (a2:(List (Int × (List Int) × Int × Int × Int))) (u2:Value) (g2:RO [] w0 u2 a2) (a3:((List (Int × (List Int))) × Int)) (u3:Value) (g3:RO [] w0 u3 a3.1) (a4:(Int × (List Int))) (u4:Value) (g4:RO [] w0 u4 a4.2) (rr:(((Int × (List Int)) × Int × Int) × Bool)) (hF:M.OpenCursor a1 a2 a3 a4=some rr) :
 Calls Tryz.prog 17 [u1,u2,(.agg #[u3,(I a3.2)]),(.agg #[(I a4.1),u4])].toArray w0 fun e w'=>∃v,e=.returned v∧Res2 w0 rr.1 rr.2 v w':=by
 refine A3 Tryz.func17 z z ?_
 have hC0:=AH w0
 unfold M.OpenCursor at hF
 refine Ad<|Bz (cs:=[u3,(I a3.2)]) hC0 z z z fun b1 w1 hC1 hB1 hN1=>Bz (cs:=[(I a4.1),u4]) hC1 z z z fun b2 w2 hC2 hB2 hN2=>Bd hC2 zero49 z z fun b3 w3 hC3 hB3 hN3=>Af z z<|Ab<|AA<|be hF fun r1 hr1 hF=>BL (fun l w=>∃x1:Bool,x1=r1∧l=[(6,(ptr b1 0)),(7,(ptr b2 0)),(8,(ptr b3 0)),(20,(.bool x1))]∧Below w3.heap.size w3 w∧Ctx [] w0 w [Ac b3 [(I 0),(.slice none 0 0),(I 0),(I 0)],Ac b2 [(I a4.1),u4],Ac b1 [u3,(I a3.2)]]) ?_ ?_
 ·refine Bt<|Ae z z<|At [u3,(I a3.2)] hC3 2 z z z A8 Az z z<|be hr1 fun x2 hr2 hr1=>cb Tryz.call10 z z (c_M_IsSource a1 u1 (g1.now hC3.keep) (a3.1,a3.2) u3 (g3.now hC3.keep) x2 hr2) fun w5 hB5=>have hC5:=hC3.grow hB5;B2 z z<|Ae z z<|B3 (fun hc1=>?_) (fun hc1=>?_)
  ·replace hr1:=AD hr1 hc1
   refine gs z z z z<|gs z z z z<|gs z z z z<|gs z z z z<|gs z z z z<|AI z z z<|Ab<|?_
   obtain rfl:=Aa hr1
   exact Ay (l':=[(6,(ptr b1 0)),(7,(ptr b2 0)),(8,(ptr b3 0)),(20,(.bool true))]) ⟨z,z,z,z,Ak⟩<|⟨true,z,z,(Al hB5).below,hC5⟩
  replace hr1:=AE hr1 hc1
  refine Ai z z<|Ae z z<|Ai z z<|Ae z z<|Ai z z<|At [(I a4.1),u4] hC5 1 z z z Bl A9 z z<|be hr1 fun x3 hr3 hr1=>Ai z z<|cb Tryz.call50 z z (c_M_IsAccess a1 u1 (g1.now hC5.keep) a2 u2 (g2.now hC5.keep) (a4.1,a4.2) u4 (g4.now hC5.keep) x3 hr3) fun w6 hB6=>have hC6:=hC5.grow hB6;Ai z z<|B2 z z<|AY z z z<|Ab<|?_
  obtain rfl:=Aa hr1
  exact Ay (l':=[(6,(ptr b1 0)),(7,(ptr b2 0)),(8,(ptr b3 0)),(20,(.bool (!x3)))]) ⟨z,z,z,z,Ak⟩<|⟨(!x3),z,z,((Al hB5).then hB6).below,hC6⟩
 rintro _ w4 ⟨x1,rfl,rfl,hB4,hC4⟩
 try dsimp only at hF
 refine AL z (fun hc2=>?_) (fun hc2=>?_)
 ·replace hF:=AD hF hc2
  refine Ad<|BD (vs:=[]) z z z built49<|Aj (cs':=[(I 0),(.slice none 0 0),(I 0),(I 0)]) (new:=[(I 0),(.slice none 0 0),(I 0),(I 0)]) hC4 0 z z (fac z<|fac z<|fac z<|fac z<|fa0) z AC z z fun w7 hC7 hKp1=>?_
  try dsimp only [List.set] at hC7
  have hk1:=Ar ((((Al hB1).then hB2).then hB3).then hB4) (Ao ((Al hB1).then hB2).size hN3) hKp1
  have hk2:=Ar (((Al hB2).then hB3).then hB4) (Ao (Al hB2).size hN3) hKp1
  have hk3:=Ar ((Al hB3).then hB4) hN3 hKp1
  refine Af z z<|Ab<|AK<|A2<|?_
  obtain rfl:=Aa hF
  refine BZ z (rv_cell_agg (cs':=[(I 0),(.slice none 0 0),(I 0),(I 0)]) hC7 (i:=0) z z z Bp AC z) (rv_tmp z) ?_
  have hC8:=hC7.triv (Ck (false))
  have hC10:=hC8.triv (nil_val (α:=Int))
  have hC9:=BW 0 (.slice none 0 0) ([]) 0 0 hC10
  exact ⟨_,z,res2_of hC9⟩
 replace hF:=AE hF hc2
 refine AM<|Av<|AA<|W_drawn 7 z hmix fun w9 hB7=>have hC11:=hC4.grow hB7;tf 2 A5 Ax z z z z z<|be hF fun x4 hr4 hF=>wAS (l':=[(6,(ptr b1 0)),(7,(ptr b2 0)),(8,(ptr b3 0)),(20,(.bool x1)),(24,(ptr b1 1))]) ⟨z,z,z,z,z,Ak⟩<|Bq [⟨0,[],fun vs=>AR (.agg #[(I a4.1),u4]),[]⟩,⟨1,[],fun vs=>Cv x4,[]⟩,⟨3,[],fun vs=>AR (I a3.2),[]⟩] [[],[0],[]] 3 z (by kernel_rfl) (by kernel_rfl) z ?_ ?_
 ·refine Am z ?_ ?_
  ·intro w11 hB9
   refine Aw<|⟨_,z,?_⟩
   exact At [(I a4.1),u4] (hC11.grow hB9) 1 z z z Bl A9 z z<|Ab<|A0 (An _ _) z z ⟨z,z⟩
  refine Am z ?_ ?_
  ·intro w11 hB9
   refine A7 z z z ?_
   rintro _ _ ⟨rfl,rfl⟩ _
   refine Aw<|⟨_,z,?_⟩
   refine AJ Tryz.call51 z z (c_M_copyAccess (a4.1,a4.2) u4 (g4.now (hC11.keep.then hB9)) x4 hr4) ?_
   rintro v1 w10 ⟨hB8,F1,hv3,hn1,hb1⟩
   exact Ab<|Cq hB8 z z hv3 hn1 hb1 (Val.inh hv3)
  refine Am z ?_ ?_
  ·intro w11 hB9
   refine Aw<|⟨_,z,?_⟩
   exact Aq (hC11.grow hB9) 2 z z A6 z z<|Ab<|A0 (An _ _) z z ⟨z,z⟩
  exact Ba
 intro w12 hB10
 refine Au z z z ?_
 rintro _ _ ⟨rfl,rfl⟩
 refine Au z z z fun v1 F1 hv3=>Au z z z<|?_
 rintro _ _ ⟨rfl,rfl⟩
 refine Bh ?_
 intro hn2 hb2
 have hC12:=hC11.pushL hB10 (Bs:=[Ag v1 (x4:(Int × (List Int)))]) (Fs:=[F1]) ⟨F1,_,z,hv3,z⟩ (by simpa using hn2) (fun b h=>(hb2 b (by simpa using h)).1)
 obtain ⟨v3,rfl,hC13⟩:=st45_own hC12
 refine tk 4 z z (Cp (vs:=[(0,(.agg #[(I x4.1),v3])),(2,(I a3.2))]) z z (built49_0_2 z z))<|BD (vs:=[(0,(.agg #[(I x4.1),v3])),(2,(I a3.2))]) z z z (built49_0_2 z z)<|Ab<|oe 5 z<|Aj (cs':=[(I x4.1),v3,(I 0),(I a3.2)]) (new:=[(I x4.1),v3,(I 0),(I a3.2)]) hC13 1 z z (fac z<|fac (AT (hC13.ro 0 z))<|fac z<|fac z<|fa0) z AC z z fun w13 hC14 hKp2=>?_
 try dsimp only [List.set] at hC14
 have hk4:=Ar ((((((Al hB1).then hB2).then hB3).then hB4).then hB7).then hB10) (Ao ((Al hB1).then hB2).size hN3) hKp2
 have hk5:=Ar (((((Al hB2).then hB3).then hB4).then hB7).then hB10) (Ao (Al hB2).size hN3) hKp2
 have hk6:=Ar ((((Al hB3).then hB4).then hB7).then hB10) hN3 hKp2
 refine Ab<|ta 6 z z z<|dn<|Av<|AK<|?_
 obtain rfl:=Aa hF
 refine BZ z (rv_cell_agg (cs':=[(I x4.1),v3,(I 0),(I a3.2)]) hC14 (i:=1) z z z Bp AC z) (rv_tmp z) ?_
 have hC15:=hC14.triv (Ck (true))
 have hC17:=hC15.f1
 have hC16:=BW x4.1 v3 x4.2 0 a3.2 hC17
 exact ⟨_,z,res2_of hC16⟩
theorem c_M_copyCursor {w0:World} (a1:((Int × (List Int)) × Int × Int)) (u1:Value) (g1:RO [] w0 u1 a1.1.2) (rr:((Int × (List Int)) × Int × Int)) (hF:M.copyCursor a1=some rr) :
 Calls Tryz.prog 56 [(.agg #[(I a1.1.1),u1,(I a1.2.1),(I a1.2.2)])].toArray w0 fun e w'=>∃v,e=.returned v∧Res w0 rr v w':=by
 refine A3 Tryz.func56 z z ?_
 have hC0:=AH w0
 unfold M.copyCursor at hF
 refine Ad<|Bz (cs:=[(I a1.1.1),u1,(I a1.2.1),(I a1.2.2)]) hC0 z z z fun b1 w1 hC1 hB1 hN1=>Bd hC1 zero49 z z fun b2 w2 hC2 hB2 hN2=>Ab<|Ad<|fd Br A9 z z z z<|At [(I a1.1.1),u1] hC2 1 z z z Bl A9 z z<|be hF fun x1 hr1 hF=>AJ Tryz.call51 z z (c_M_copyAccess (a1.1.1,a1.1.2) u1 (g1.now hC2.keep) x1 hr1)<|?_
 rintro v1 w3 ⟨hB3,F1,hv1,hn1,hb1⟩
 have hC3:=hC2.push hB3 (A:=Ag v1 x1) hv1 hn1 hb1
 obtain ⟨v2,rfl,hC4⟩:=st45_own hC3
 refine fd Br A9 z z z z<|Aj (cs':=[(I x1.1),v2,(I a1.2.1),(I a1.2.2)]) (new:=[(I x1.1),v2]) hC4 2 z z (fac z<|fac (AT (hC4.ro 0 z))<|fa0) z A9 z z fun w4 hC5 hKp1=>?_
 try dsimp only [List.set] at hC5
 have hk1:=Ar (((Al hB1).then hB2).then hB3) hN1 hKp1
 refine Ab<|Ad<|At [(I x1.1),v2,(I a1.2.1),(I a1.2.2)] hC5 2 z z z Bp AC z z<|Aj (cs':=[(I x1.1),v2,(I a1.2.1),(I a1.2.2)]) (new:=[(I x1.1),v2,(I a1.2.1),(I a1.2.2)]) hC5 1 z z (fac z<|fac (AT (hC5.ro 0 z))<|fac z<|fac z<|fa0) z AC z z fun w5 hC6 hKp2=>?_
 try dsimp only [List.set] at hC6
 have hk2:=Ar hk1 (Ao (Al hB1).size hN2) hKp2
 refine Ab (AK ?_)
 obtain rfl:=Aa hF
 refine BR z (rv_cell_agg (cs':=[(I x1.1),v2,(I a1.2.1),(I a1.2.2)]) hC6 (i:=1) z z z Bp AC z) ?_
 have hC7:=BW x1.1 v2 x1.2 a1.2.1 a1.2.2 hC6
 exact ⟨_,z,Cf hC7 0 z⟩
theorem c_M_isPage {w0:World} (a1:Int) (rr:Bool) (hF:M.isPage a1=some rr) :
 Calls Tryz.prog 57 [(I a1)].toArray w0 fun e w'=>∃v,e=.returned v∧Res w0 rr v w':=by
 refine A3 Tryz.func57 z z ?_
 have hC0:=AH w0
 unfold M.isPage at hF
 refine Ad<|Af z z<|Ab<|Ad<|Ae z z<|be hF fun x1 hr1 hF=>cb BQ z z (c_M_within a1 1 9 x1 hr1) fun w1 hB1=>have hC1:=hC0.grow hB1;Af z z<|Ab<|AK<|?_
 obtain rfl:=Aa hF
 exact AB z z<|⟨_,z,Bf hC1 _⟩
theorem c_M_matches_c1 {w0:World} (a1:(Int × (List Int))) (u1:Value) (g1:RO [] w0 u1 a1.2) (pb1:Nat) (ax1:(Int × (List Int) × Int × Int × Int)) (g2:ROAt [] w0 pb1 0 ax1) (pb2:Nat) (ax2:(Int × (List Int))) (g3:ROAt [] w0 pb2 0 ax2) (rr:Bool) (hF:M.matches_c1 a1 ax1 ax2=some rr) :
 Calls Tryz.prog 85 [(.agg #[(I a1.1),u1]),(ptr pb1 0),(ptr pb2 0)].toArray w0 fun e w'=>∃v,e=.returned v∧Res w0 rr v w':=by
 refine A3 Tryz.func85 z z ?_
 have hC0:=AH w0
 unfold M.matches_c1 at hF
 refine Ad<|Bz (cs:=[(I a1.1),u1]) hC0 z z z fun b1 w1 hC1 hB1 hN1=>Af z z<|Ab<|AA<|Ad<|fd A1 Ax z z z z<|Aq hC1 0 z z A6 z z<|fd AP Ax z z z z<|Be ty3 g2.fst hC1.keep z z fun v1 h1=>?_
 obtain rfl:=BJ h1
 refine Cl z z z<|Ab<|AL z (fun hc1=>?_) (fun hc1=>?_)
 ·replace hF:=AD hF hc1
  refine Ad<|Af z z<|Ab<|AK<|A2<|?_
  obtain rfl:=Aa hF
  exact AB z z<|⟨_,z,Bf hC1 _⟩
 replace hF:=AE hF hc1
 refine AM<|Av<|AA<|Ad<|fd AP A4 z z z z<|Be ty24 g2.snd.fst hC1.keep z z fun v2 h2=>Bo Ap h2 z z<|Ae z z<|Ab<|be hF fun r1 hr1 hF=>Bx (fun l w=>.inl ()=r1∧l=[]∧Below w1.heap.size w1 w∧Ctx [] w0 w []) ?_ ?_
 ·refine Bb<|wS (l':=[(2,(ptr pb2 0)),(3,(ptr b1 0)),(13,v2),(14,(I (List.length ax1.2.1:Int))),(15,(I 0))]) ⟨z,z,z,z,z,Ak⟩<|BE (fun k l w=>∃x1:Int,l=[(2,(ptr pb2 0)),(3,(ptr b1 0)),(13,v2),(14,(I (List.length ax1.2.1:Int))),(15,(I x1))]∧Below w1.heap.size w1 w∧Ctx [] w0 w [Ac b1 [(I a1.1),u1]]∧M.matches_c1_l1 ax1 a1 ax2 k x1=some r1) FUEL ⟨0,z,(An _ _),hC1,hr1⟩<|?_
  clear hr1
  rintro k1 _ w2 ⟨x1,rfl,hB2,hC2,hL1⟩
  cases k1 with
  | zero=>rw [M.matches_c1_l1] at hL1; cases hL1
  | succ k1 =>
   rw [M.matches_c1_l1] at hL1
   refine Ad<|B8 z z z<|Ab<|AA<|AL z (fun hc2=>?_) (fun hc2=>?_)
   ·replace hL1:=AD hL1 hc2
    refine AM<|Av<|AA<|Bb<|Ad<|Ae z z<|be hL1 fun x2 hx1 hL1=>AZ Ap ty3 h2 hx1 z z z fun b2 o1 h3=>Be ty3 h3 hC2.keep z z fun v3 h4=>?_
    obtain rfl:=BJ h4
    refine Af z z<|Af z z<|Ab<|AA<|W_drawn 11 z hmix fun w3 hB3=>have hC3:=hC2.grow hB3;tf 0 A1 A4 z z z z z<|tm 2 z z z<|tf 5 AV A4 z z z z z<|tm 7 z z z<|be hL1 fun x3 hx2 hL1=>be hL1 fun x4 hx3 hL1=>wAS (l':=[(2,(ptr pb2 0)),(3,(ptr b1 0)),(5,(I x1)),(6,(I x2)),(13,v2),(14,(I (List.length ax1.2.1:Int))),(15,(I x1)),(16,(.bool (decide (x1 < (List.length ax1.2.1:Int))))),(17,(I x1)),(18,(ptr b2 o1)),(19,(I x2)),(20,(ptr b1 1)),(22,(I x2)),(25,(ptr pb2 (0+1))),(27,(I x1))]) ⟨z,z,z,z,z,z,z,z,z,z,z,z,z,z,z,Ak⟩<|Bq [⟨1,[],fun vs=>AR u1,[]⟩,⟨3,[],fun vs=>Cc [] w0 x3,[]⟩,⟨4,[],fun vs=>AR (I x3),[]⟩,⟨6,[],fun vs=>Cs [] w0 ax2.2,[]⟩,⟨8,[],fun vs=>Cc [] w0 x4,[]⟩,⟨9,[],fun vs=>AR (I x4),[]⟩] [[],[1],[3],[],[6],[8]] 1 z (by kernel_rfl) (by kernel_rfl) z ?_ ?_
    ·refine Am z ?_ ?_
     ·intro w4 hB4
      refine Aw<|⟨_,z,?_⟩
      exact Aq (hC3.grow hB4) 0 z z AU z z<|Ab<|A0 (An _ _) z z ⟨z,z⟩
     refine Am z ?_ ?_
     ·intro w4 hB4
      refine A7 z z z ?_
      rintro _ _ ⟨rfl,rfl⟩ _
      refine Aw<|⟨_,z,?_⟩
      exact AZ Ap ty3 g1 hx2 z z z fun b3 o2 h5=>Ab<|A0 (An _ _) z z ⟨z,_,_,z,h5⟩
     refine Am z ?_ ?_
     ·intro w4 hB4
      refine A7 z z z ?_
      rintro _ _ ⟨rfl,b3,o2,rfl,h5⟩ _
      refine Aw<|⟨_,z,?_⟩
      refine Be ty3 h5 (hC3.keep.then hB4) z z (fun v4 h6=>?_)
      obtain rfl:=BJ h6
      exact Ab<|A0 (An _ _) z z ⟨z,z⟩
     refine Am z ?_ ?_
     ·intro w4 hB4
      refine Aw<|⟨_,z,?_⟩
      exact Be ty24 g3.snd (hC3.keep.then hB4) z z fun v5 h7=>Ab<|A0 (An _ _) z z ⟨z,h7⟩
     refine Am z ?_ ?_
     ·intro w4 hB4
      refine A7 z z z ?_
      rintro v5 _ ⟨rfl,h7⟩ _
      refine Aw<|⟨_,z,?_⟩
      exact AZ Ap ty3 h7 hx3 z z z fun b4 o3 h8=>Ab<|A0 (An _ _) z z ⟨z,_,_,z,h8⟩
     refine Am z ?_ ?_
     ·intro w4 hB4
      refine A7 z z z ?_
      rintro _ _ ⟨rfl,b4,o3,rfl,h8⟩ _
      refine Aw<|⟨_,z,?_⟩
      refine Be ty3 h8 (hC3.keep.then hB4) z z (fun v6 h9=>?_)
      obtain rfl:=BJ h9
      exact Ab<|A0 (An _ _) z z ⟨z,z⟩
     exact Ba
    intro w5 hB5
    refine Au z z z ?_
    rintro _ _ ⟨rfl,rfl⟩
    refine Au z z z ?_
    rintro _ _ ⟨rfl,b3,o2,rfl,h5⟩
    refine Au z z z ?_
    rintro _ _ ⟨rfl,rfl⟩
    refine Au z z z ?_
    rintro v5 _ ⟨rfl,h7⟩
    refine Au z z z ?_
    rintro _ _ ⟨rfl,b4,o3,rfl,h8⟩
    refine Au z z z ?_
    rintro _ _ ⟨rfl,rfl⟩
    refine Bh fun hn1 hb1=>have hC4:=hC3.grow hB5;tk 10 z z (fl_neq z z)<|Cl z z z<|Ab<|dn<|Av<|AL z (fun hc3=>?_) (fun hc3=>?_)
    ·replace hL1:=AD hL1 hc3
     refine Ad<|Af z z<|Ab<|AK<|Bu<|A2<|A2<|Bu<|A2<|A2<|?_
     obtain rfl:=Aa hL1
     dsimp only at hF
     obtain rfl:=Aa hF
     exact AB z z<|⟨_,z,Bf hC4 _⟩
    replace hL1:=AE hL1 hc3
    exact AM<|Bg<|Av<|Bt<|Bw z z z<|Ae z z<|Ab<|Ay (l':=[(2,(ptr pb2 0)),(3,(ptr b1 0)),(13,v2),(14,(I (List.length ax1.2.1:Int))),(15,(I (w64 (x1+1))))]) ⟨z,z,z,z,z,Ak⟩<|⟨k1,AO _,w64 (x1+1),z,(((Al hB2).then hB3).then hB5).below,hC4,hL1⟩
   replace hL1:=AE hL1 hc2
   refine BF (AW (AW (B4 ?_)))
   obtain rfl:=Aa hL1
   have hC5:=hC2.h0
   exact Ay (l':=[]) Ak<|⟨z,z,(Al hB2).below,hC5⟩
 rintro l2 _ w6 hs2 ⟨rfl,rfl,hB6,hC6⟩
 try dsimp only at hF
 refine Bm hs2 ?_
 clear hs2
 refine Ad<|Af z z<|Ab<|AK<|?_
 obtain rfl:=Aa hF
 exact AB z z<|⟨_,z,Bf hC6 _⟩
theorem c_Slices_IndexFunc_Limpl_Fact_impl_Fact_M_matches_c1 {w0:World} (a1:(List (Int × (List Int)))) (u1:Value) (g1:RO [] w0 u1 a1) (pb1:Nat) (ax1:(Int × (List Int) × Int × Int × Int)) (g2:ROAt [] w0 pb1 0 ax1) (pb2:Nat) (ax2:(Int × (List Int))) (g3:ROAt [] w0 pb2 0 ax2) (rr:Int) (hF:Slices.IndexFunc_Limpl_Fact_impl_Fact_M_matches_c1 a1 ax1 ax2=some rr) :
 Calls Tryz.prog 72 [u1,(.func (.func 85) #[] #[(ptr pb1 0),(ptr pb2 0)])].toArray w0 fun e w'=>∃v,e=.returned v∧Res w0 rr v w':=by
 refine A3 CK z z ?_
 have hC0:=AH w0
 unfold Slices.IndexFunc_Limpl_Fact_impl_Fact_M_matches_c1 at hF
 refine Ad<|Af z z<|Ab<|AA<|Ad<|Ae z z<|Bo Ah g1 z z<|Ae z z<|Ab<|be hF fun r1 hr1 hF=>Bx (fun l w=>.inl ()=r1∧l=[]∧Below w0.heap.size w0 w∧Ctx [] w0 w []) ?_ ?_
 ·refine Bb<|wS (l':=[(0,u1),(1,(.func (.func 85) #[] #[(ptr pb1 0),(ptr pb2 0)])),(7,(I (List.length a1:Int))),(8,(I 0))]) ⟨z,z,z,z,Ak⟩<|BE (fun k l w=>∃x1:Int,l=[(0,u1),(1,(.func (.func 85) #[] #[(ptr pb1 0),(ptr pb2 0)])),(7,(I (List.length a1:Int))),(8,(I x1))]∧Below w0.heap.size w0 w∧Ctx [] w0 w []∧Slices.IndexFunc_Limpl_Fact_impl_Fact_M_matches_c1_l1 a1 ax1 ax2 k x1=some r1) FUEL ⟨0,z,(An _ _),hC0,hr1⟩<|?_
  clear hr1
  rintro k1 _ w1 ⟨x1,rfl,hB1,hC1,hL1⟩
  cases k1 with
  | zero=>rw [Slices.IndexFunc_Limpl_Fact_impl_Fact_M_matches_c1_l1] at hL1; cases hL1
  | succ k1 =>
   rw [Slices.IndexFunc_Limpl_Fact_impl_Fact_M_matches_c1_l1] at hL1
   refine Ad<|B8 z z z<|Ab<|AA<|AL z (fun hc1=>?_) (fun hc1=>?_)
   ·replace hL1:=AD hL1 hc1
    refine AM<|Av<|AA<|Bb<|Ad<|Ae z z<|Af z z<|Ab<|Ad<|Ae z z<|Ae z z<|Ae z z<|be hL1 fun x2 hx1 hL1=>AZ Ah ty29 g1 hx1 z z z fun b1 o1 h1=>Be ty29 h1 hC1.keep z z fun v1 h2=>?_
    obtain ⟨v2,rfl,h3⟩:=BM h2
    refine be hL1 fun x3 hr2 hL1=>Cw (cap:=[(ptr pb1 0),(ptr pb2 0)]) Tryz.call85 z z z (c_M_matches_c1 x2 v2 (h3.now hC1.keep) pb1 ax1 (g2.now hC1.keep) pb2 ax2 (g3.now hC1.keep) x3 hr2) fun _ w2 hv1=>?_
    obtain ⟨rfl,hB2⟩:=Cx hv1
    have hC2:=hC1.grow hB2
    refine Ab<|AL z (fun hc2=>?_) (fun hc2=>?_)
    ·replace hL1:=AD hL1 hc2
     refine Ad<|Ae z z<|Af z z<|Ab<|AK<|Bu<|A2<|A2<|Bu<|A2<|A2<|?_
     obtain rfl:=Aa hL1
     dsimp only at hF
     obtain rfl:=Aa hF
     exact AB z z<|⟨_,z,B7 hC2 _⟩
    replace hL1:=AE hL1 hc2
    exact AM<|Bg<|Av<|Bt<|Bw z z z<|Ae z z<|Ab<|Ay (l':=[(0,u1),(1,(.func (.func 85) #[] #[(ptr pb1 0),(ptr pb2 0)])),(7,(I (List.length a1:Int))),(8,(I (w64 (x1+1))))]) ⟨z,z,z,z,Ak⟩<|⟨k1,AO _,w64 (x1+1),z,((Al hB1).then hB2).below,hC2,hL1⟩
   replace hL1:=AE hL1 hc1
   refine BF (AW (AW (B4 ?_)))
   obtain rfl:=Aa hL1
   exact Ay (l':=[]) Ak<|⟨z,z,(Al hB1).below,hC1⟩
 rintro l2 _ w3 hs2 ⟨rfl,rfl,hB3,hC3⟩
 try dsimp only at hF
 refine Bm hs2 ?_
 clear hs2
 refine Ad<|Af z z<|Ab<|AK<|?_
 obtain rfl:=Aa hF
 exact AB z z<|⟨_,z,B7 hC3 _⟩
theorem c_Slices_DeleteFunc_Limpl_Fact_impl_Fact_M_matches_c1 {Fs:List (List Nat)} {w0:World} (a1:(List (Int × (List Int)))) (u1:Value) (pb1:Nat) (ax1:(Int × (List Int) × Int × Int × Int)) (g1:ROAt Fs.flatten w0 pb1 0 ax1) (pb2:Nat) (ax2:(Int × (List Int))) (g2:ROAt Fs.flatten w0 pb2 0 ax2) (hH:Hold [Ag u1 (a1:(List (Int × (List Int))))] w0 Fs) (hn:Fs.flatten.Nodup) (rr:(List (Int × (List Int)))) (hF:Slices.DeleteFunc_Limpl_Fact_impl_Fact_M_matches_c1 a1 ax1 ax2=some rr) :
 Calls Tryz.prog 36 [u1,(.func (.func 85) #[] #[(ptr pb1 0),(ptr pb2 0)])].toArray w0 fun e w'=>∃v,e=.returned v∧∃q0:Value,v=q0∧Ctx Fs.flatten w0 w' [Ag q0 (rr:(List (Int × (List Int))))]:=by
 refine A3 Tryz.func36 z z ?_
 have hC0:=B6 hH hn
 unfold Slices.DeleteFunc_Limpl_Fact_impl_Fact_M_matches_c1 at hF
 refine be hF fun x hx hF=>Ad<|Af z z<|Ab<|Ad<|Ae z z<|Ae z z<|ci CL z z (c_Slices_IndexFunc_Limpl_Fact_impl_Fact_M_matches_c1 a1 u1 (hC0.ro 0 z) pb1 ax1 (g1.now (B5 _ _)) pb2 ax2 (g2.now (B5 _ _)) x hx) fun w1 hB1=>have hC1:=hC0.grow hB1;Af z z<|Ab<|AA<|Ad<|Ae z z<|BP z z z<|?_
 by_cases hx1:x=-1
 ·rw [if_pos hx1] at hF
  obtain rfl:=Aa hF
  rw [decide_eq_true hx1]
  exact Ab<|C8 z<|Ad<|Ae z z<|Af z z<|Ab<|AK<|A2<|AB z z<|⟨_,z,_,z,hC1⟩
 rw [if_neg hx1] at hF
 have hr:0 ≤ x∧x < (a1.length:Int):=Classical.byContradiction fun h=>by rw [if_neg h] at hF; cases hF
 rw [if_pos hr] at hF
 obtain ⟨m,rfl⟩:∃m:Nat,x=m:=⟨x.toNat,by omega⟩
 have hm:m < a1.length:=by omega
 have hlim:=(hC0.ro 0 z).lt
 simp only [maxLen] at hlim
 rw [Int.toNat_natCast] at hF
 rw [decide_eq_false hx1]
 refine Ab<|C9 z<|AM<|Av<|AA<|Ad<|Ae z z<|Bw z z z<|?_
 rw [show w64 ((m:Int)+1)=((m+1:Nat):Int) by rw [w64_id (by omega) (by omega)]; omega]
 refine Af z z<|Ab<|?_
 obtain ⟨b,c,rfl,hc1,hc2,hD0⟩:=hC1.del_open hm
 have hml:(a1.take m).length=m:=by rw [List.length_take]; omega
 refine Bx (fun l w=>∃kept:List (Int × (List Int)),∃g:Nat,l=[(0,.slice (some ⟨b,0,none⟩) a1.length c),(5,.int .i64 (kept.length:Int))]∧0 < g∧kept.length+g=a1.length∧kept=rr∧Ctx Fs.flatten w0 w [Item.del b c kept g ([]:List (Int × (List Int)))]) ?_ ?_
 ·refine Bb<|wS (l':=[(0,.slice (some ⟨b,0,none⟩) a1.length c),(1,(.func (.func 85) #[] #[(ptr pb1 0),(ptr pb2 0)])),(5,.int .i64 (m:Int)),(6,.int .i64 ((m+1:Nat):Int))]) ⟨z,z,z,z,Ak⟩<|BE (fun k l w=>∃kept:List (Int × (List Int)),∃g:Nat,∃rest:List (Int × (List Int)),l=[(0,.slice (some ⟨b,0,none⟩) a1.length c),(1,(.func (.func 85) #[] #[(ptr pb1 0),(ptr pb2 0)])),(5,.int .i64 (kept.length:Int)),(6,.int .i64 ((kept.length+g:Nat):Int))]∧0 < g∧kept.length+g+rest.length=a1.length∧dfl (fun e=>M.matches_c1 e ax1 ax2) kept rest=some rr∧k=rest.length∧Ctx Fs.flatten w0 w [Item.del b c kept g rest]) (a1.drop (m+1)).length ⟨a1.take m,1,a1.drop (m+1),by rw [hml],by omega,by rw [hml,List.length_drop]; omega,hF,z,hD0⟩<|?_
  clear hF hD0
  rintro k1 _ w2 ⟨kept,g,rest,rfl,hg,hlen,hL,hk,hD⟩
  refine AA<|Ad<|Ae z z<|Ae z z<|WL_len_raw Ah z z<|B8 z z z<|?_
  cases rest with
  | nil =>
   have hq:=Aa hL
   simp only [List.length_nil,Nat.add_zero] at hlen
   rw [decide_eq_false (show ¬ ((kept.length+g:Nat):Int) < (a1.length:Int) by omega)]
   exact Ab<|C9 z<|BF<|AW<|AW<|B4<|Ay (l':=[(0,.slice (some ⟨b,0,none⟩) a1.length c),(5,.int .i64 (kept.length:Int))]) ⟨z,z,Ak⟩<|⟨kept,g,z,hg,hlen,hq,hD⟩
  | cons x rest =>
   simp only [List.length_cons] at hlen hk
   rw [decide_eq_true (show ((kept.length+g:Nat):Int) < (a1.length:Int) by omega)]
   refine Ab<|C8 z<|AM<|Av<|AA<|Bb<|Ad<|Ae z z<|Ae z z<|CH Ah ty29 (show kept.length+g < a1.length by omega) z z z<|?_
   obtain ⟨cs,hcs,hD1⟩:=hD.del_head
   obtain ⟨hro,row,T,hh,hrow⟩:=hD1.delh_row
   refine WL_load_raw ty29 hh (by rw [Nat.zero_add]; exact hrow) hcs z z ?_
   obtain ⟨e1,hce,_⟩:=BM hro
   obtain rfl:=cells_of_agg (cs':=[(I x.1),e1]) hce
   rw [show mkv (Rep.agg (Int × (List Int))) [(I x.1),e1]=(.agg #[(I x.1),e1]) from z]
   refine WL_alloc hD1 zero29 z z (fun b7 w3 hD2 hB2=>?_)
   have phr:=hD2.delh_ro (α:=(Int × (List Int))) 1 z
   obtain ⟨pf0,phe,pg0⟩:=BM phr
   replace phe:=cells_of_agg (cs:=[(I x.1),e1]) (cs':=[(I x.1),pf0]) phe
   simp only [List.cons.injEq,and_true,true_and] at phe
   obtain rfl:=phe
   refine WL_store_box_agg (cs':=[(I x.1),e1]) (new:=[(I x.1),e1]) hD2 0 z z (fac z<|fac (AT pg0)<|fa0) z AQ z z (fun w4 hD3=>?_)
   try dsimp only [List.set] at hD3
   refine Ab<|Ad<|Ae z z<|At [(I x.1),e1] hD3 0 z z z By AQ z z<|?_
   have qhr:=hD3.delh_ro (α:=(Int × (List Int))) 1 z
   obtain ⟨qf0,qhe,qg0⟩:=BM qhr
   replace qhe:=cells_of_agg (cs:=[(I x.1),e1]) (cs':=[(I x.1),qf0]) qhe
   simp only [List.cons.injEq,and_true,true_and] at qhe
   obtain rfl:=qhe
   obtain ⟨q,hq,hL⟩:=bind_some (show (M.matches_c1 x ax1 ax2).bind (fun b=>dfl (fun e=>M.matches_c1 e ax1 ax2) (if b then kept else kept ++ [x]) rest)=some rr from hL)
   refine Cw (cap:=[(ptr pb1 0),(ptr pb2 0)]) Tryz.call85 z z z (c_M_matches_c1 x e1 qg0 pb1 ax1 (g1.now hD3.keep) pb2 ax2 (g2.now hD3.keep) q hq) ?_
   intro _ w5 hv2
   obtain ⟨rfl,hB5⟩:=Cx hv2
   have hD4:=hD3.grow hB5
   refine B2 z z<|Ab<|AL z (fun hq1=>?_) (fun hq1=>?_)
   ·have hqf:q=false:=by simpa using hq1
    rw [hqf] at hL
    rw [if_neg (by simp)] at hL
    refine Ad<|Ae z z<|Ae z z<|At [(I x.1),e1] hD4 0 z z z By AQ z z<|CH Ah ty29 (show kept.length < a1.length by omega) z z z<|WL_store_del hD4.swap hg ty29 z z z fun w6 hD5=>Ab<|Bt<|Ae z z<|Bw z z z<|?_
    rw [show w64 ((kept.length:Int)+1)=((kept ++ [x]).length:Int) by rw [w64_id (by omega) (by omega),List.length_append]; rfl]
    refine Af z z<|Ab<|Bg<|Av<|Bt<|Ae z z<|Bw z z z<|?_
    rw [show w64 (((kept.length+g:Nat):Int)+1)=(((kept ++ [x]).length+g:Nat):Int) by rw [w64_id (by omega) (by omega),List.length_append]; simp only [List.length_cons,List.length_nil]; omega]
    exact Af z z<|Ab<|Ay (l':=[(0,.slice (some ⟨b,0,none⟩) a1.length c),(1,(.func (.func 85) #[] #[(ptr pb1 0),(ptr pb2 0)])),(5,.int .i64 ((kept ++ [x]).length:Int)),(6,.int .i64 (((kept ++ [x]).length+g:Nat):Int))]) ⟨z,z,z,z,Ak⟩<|⟨rest.length,by omega,kept ++ [x],g,rest,z,hg,by rw [List.length_append]; simp only [List.length_cons,List.length_nil]; omega,hL,z,hD5.headN 1⟩
   have hqt:q=true:=by simpa using hq1
   rw [hqt] at hL
   rw [if_pos z] at hL
   refine AM<|Bg<|Av<|Bt<|Ae z z<|Bw z z z<|?_
   rw [show w64 (((kept.length+g:Nat):Int)+1)=((kept.length+(g+1):Nat):Int) by rw [w64_id (by omega) (by omega)]; omega]
   refine Af z z<|Ab<|Ay (l':=[(0,.slice (some ⟨b,0,none⟩) a1.length c),(1,(.func (.func 85) #[] #[(ptr pb1 0),(ptr pb2 0)])),(5,.int .i64 (kept.length:Int)),(6,.int .i64 ((kept.length+(g+1):Nat):Int))]) ⟨z,z,z,z,Ak⟩<|?_
   have hD5:=(hD4.swap.headN 1).del_skip
   exact ⟨rest.length,by omega,kept,g+1,rest,z,by omega,by omega,hL,z,hD5⟩
 rintro l2 _ w8 hs2 ⟨kept,g,rfl,hg,hlen,rfl,hD⟩
 refine Bm hs2 ?_
 clear hs2
 exact Ad<|Ae z z<|Ae z z<|CD Ah ty29 (show kept.length < c by omega) (show kept.length ≤ a1.length by omega) hc1 z z z<|WL_clear_del hD Ah ty29 zc29 (fac z<|fac z<|fa0) hlen.symm z hg fun w9 hD9=>Ab<|Ad<|Ae z z<|Ae z z<|WL_sl_h Ah ty29 (hi:=kept.length) (by omega) (by omega) z z z<|Af z z<|Ab<|AK<|AB z z<|⟨_,z,_,z,hD9⟩
theorem c_M_matches {w0:World} (a1:(List (Int × (List Int) × Int × Int × Int))) (u1:Value) (g1:RO [] w0 u1 a1) (a2:(List (Int × (List Int)))) (u2:Value) (g2:RO [] w0 u2 a2) (a3:(Int × (List Int))) (u3:Value) (g3:RO [] w0 u3 a3.2) (rr:(List (Int × (List Int)))) (hF:M.matches a1 a2 a3=some rr) :
 Calls Tryz.prog 58 [u1,u2,(.agg #[(I a3.1),u3])].toArray w0 fun e w'=>∃v,e=.returned v∧Res w0 rr v w':=by
 refine A3 Tryz.func58 z z ?_
 have hC0:=AH w0
 unfold M.matches at hF
 refine Ad<|Bz (cs:=[(I a3.1),u3]) hC0 z z z fun b1 w1 hC1 hB1 hN1=>Af z z<|Ab<|Ad<|Ae z z<|fd AV Ax z z z z<|Aq hC1 0 z z A6 z z<|be hF fun x1 hx1 hF=>AZ Bi ty93 g1 hx1 z z z fun b2 o1 h1=>Be ty93 h1 hC1.keep z z fun v1 h2=>?_
 obtain ⟨v2,rfl,h3⟩:=CN h2
 refine Bd hC1 zero93 z z fun b3 w2 hC2 hB2 hN2=>Aj (cs':=[(I x1.1),v2,(I x1.2.2.1),(I x1.2.2.2.1),(I x1.2.2.2.2)]) (new:=[(I x1.1),v2,(I x1.2.2.1),(I x1.2.2.2.1),(I x1.2.2.2.2)]) hC2 0 z z (fac z<|fac (AT h3)<|fac z<|fac z<|fac z<|fa0) z BC z z fun w3 hC3 hKp1=>?_
 try dsimp only [List.set] at hC3
 have hk1:=Ar ((Al hB1).then hB2) (Ao (Al hB1).size hN2) hKp1
 have hk2:=Ar (Al hB2) hN2 hKp1
 refine Ab<|Ad<|Ae z z<|be hF fun x2 hr1 hF=>AJ Tryz.call67 z z (c_M_copyFacts a2 u2 (g2.now hC3.keep) x2 hr1)<|?_
 rintro v3 w4 ⟨hB3,F1,hv1,hn1,hb1⟩
 have hC4:=hC3.push hB3 (A:=Ag v3 x2) hv1 hn1 hb1
 refine C3 z z<|be hF fun x3 hr2 hF=>?_
 obtain ⟨Fs1,hH1,hn2,hF1,hO1,hX1,hb2⟩:=Ctx.lend3 (As:=[Ac b3 [(I x1.1),v2,(I x1.2.2.1),(I x1.2.2.2.1),(I x1.2.2.2.2)],Ac b1 [(I a3.1),u3]]) [Ag v3 (x2:(List (Int × (List Int))))] hC4
 refine AJ Tryz.call36 z z (c_Slices_DeleteFunc_Limpl_Fact_impl_Fact_M_matches_c1 x2 v3 b3 (x1.1,x1.2.1,x1.2.2.1,x1.2.2.2.1,x1.2.2.2.2) (roat_box (hX1 0 _ _ z) (repd_pair repd_int (repd_pair (repd_slice (AX h3 hC4.keep hF1)) (repd_pair repd_int (repd_pair repd_int repd_int))))) b1 (a3.1,a3.2) (roat_box (hX1 1 _ _ z) (repd_pair repd_int (repd_slice (AX g3 hC4.keep hF1)))) hH1 hn2 x3 hr2) ?_
 rintro v4 w5 ⟨_,rfl,hq1⟩
 have hC6:Ctx [] w0 w5 [Ag v4 (x3:(List (Int × (List Int)))),Ac b3 [(I x1.1),v2,(I x1.2.2.1),(I x1.2.2.2.1),(I x1.2.2.2.2)],Ac b1 [(I a3.1),u3]]:=hb2 _ _ hq1
 refine Af z z<|Ab<|AK<|?_
 obtain rfl:=Aa hF
 exact AB z z<|⟨_,z,Cf hC6 0 z⟩
theorem c_M_PageAt {w0:World} (a1:(List (Int × (List Int)))) (u1:Value) (g1:RO [] w0 u1 a1) (a2:Int) (a3:Int) (rr:((List (Int × (List Int))) × Int × Bool)) (hF:M.PageAt a1 a2 a3=some rr) :
 Calls Tryz.prog 59 [u1,(I a2),(I a3)].toArray w0 fun e w'=>∃v,e=.returned v∧Res3 w0 rr.1 rr.2.1 rr.2.2 v w':=by
 refine A3 Tryz.func59 z z ?_
 have hC0:=AH w0
 unfold M.PageAt at hF
 refine Ad<|Af z z<|Af z z<|Af z z<|Ab<|AA<|be hF fun r1 hr1 hF=>BL (fun l w=>∃x1:Bool,x1=r1∧l=[(0,u1),(1,(I a2)),(2,(I a3)),(19,(.bool x1))]∧Below w0.heap.size w0 w∧Ctx [] w0 w []) ?_ ?_
 ·refine Bt<|Ae z z<|be hr1 fun x2 hr2 hr1=>cb Tryz.call57 z z (c_M_isPage a3 x2 hr2) fun w2 hB2=>have hC2:=hC0.grow hB2;B2 z z<|Ae z z<|B3 (fun hc1=>?_) (fun hc1=>?_)
  ·replace hr1:=AD hr1 hc1
   refine gs z z z z<|gs z z z z<|gs z z z z<|gs z z z z<|gs z z z z<|AI z z z<|Ab<|?_
   obtain rfl:=Aa hr1
   exact Ay (l':=[(0,u1),(1,(I a2)),(2,(I a3)),(19,(.bool true))]) ⟨z,z,z,z,Ak⟩<|⟨true,z,z,(Al hB2).below,hC2⟩
  replace hr1:=AE hr1 hc1
  refine Ai z z<|Ae z z<|Ai z z<|Ae z z<|Ai z z<|Bo Ah g1 z z<|be hr1 fun x3 hr3 hr1=>Ai z z<|cb BQ z z (c_M_within a2 0 (List.length a1:Int) x3 hr3) fun w3 hB3=>have hC3:=hC2.grow hB3;Ai z z<|B2 z z<|AY z z z<|Ab<|?_
  obtain rfl:=Aa hr1
  exact Ay (l':=[(0,u1),(1,(I a2)),(2,(I a3)),(19,(.bool (!x3)))]) ⟨z,z,z,z,Ak⟩<|⟨(!x3),z,z,((Al hB2).then hB3).below,hC3⟩
 rintro _ w1 ⟨x1,rfl,rfl,hB1,hC1⟩
 try dsimp only at hF
 refine AL z (fun hc2=>?_) (fun hc2=>?_)
 ·replace hF:=AD hF hc2
  refine Ad<|Af z z<|Af z z<|Af z z<|Ab<|AK<|A2<|?_
  obtain rfl:=Aa hF
  refine fn_ret3 z z z z ?_
  have hC4:=hC1.triv (Ck (false))
  have hC5:=hC4.triv (Bv (0))
  have hC6:=hC5.triv (nil_val (α:=(Int × (List Int))))
  exact ⟨_,z,res3_of hC6⟩
 replace hF:=AE hF hc2
 refine AM<|Av<|Ad<|Ae z z<|Bo Ah g1 z z<|Ae z z<|Ae z z<|Bw z z z<|WL_min z z z<|Af z z<|Ab<|Ad<|Ae z z<|Ae z z<|Ae z z<|be hF fun x4 hx1 hF=>WL_slice_lh Ah ty29 g1 hx1 z z z z fun v1 h1=>be hF fun x5 hr4 hF=>AJ Tryz.call67 z z (c_M_copyFacts x4 v1 (h1.now hC1.keep) x5 hr4)<|?_
 rintro v2 w4 ⟨hB4,F1,hv3,hn1,hb1⟩
 have hC7:=hC1.push hB4 (A:=Ag v2 x5) hv3 hn1 hb1
 refine Ae z z<|Af z z<|Af z z<|Af z z<|Ab<|AK<|?_
 obtain rfl:=Aa hF
 refine fn_ret3 z z z z ?_
 have hC8:=hC7.triv (Ck (true))
 have hC9:=hC8.triv (Bv (if (w64 (a2+a3)) < (List.length a1:Int) then w64 (a2+a3) else (List.length a1:Int)))
 have hC10:=hC9.f2
 exact ⟨_,z,res3_of hC10⟩
theorem c_M_NextPage {w0:World} (a1:(List Int)) (u1:Value) (g1:RO [] w0 u1 a1) (a2:(List (Int × (List Int) × Int × Int × Int))) (u2:Value) (g2:RO [] w0 u2 a2) (a3:((List (Int × (List Int))) × Int)) (u3:Value) (g3:RO [] w0 u3 a3.1) (a4:((Int × (List Int)) × Int × Int)) (u4:Value) (g4:RO [] w0 u4 a4.1.2) (a5:Int) (rr:((List (Int × (List Int))) × ((Int × (List Int)) × Int × Int) × Int)) (hF:M.NextPage a1 a2 a3 a4 a5=some rr) :
 Calls Tryz.prog 20 [u1,u2,(.agg #[u3,(I a3.2)]),(.agg #[(I a4.1.1),u4,(I a4.2.1),(I a4.2.2)]),(I a5)].toArray w0 fun e w'=>∃v,e=.returned v∧Res3 w0 rr.1 rr.2.1 rr.2.2 v w':=by
 refine A3 Tryz.func20 z z ?_
 have hC0:=AH w0
 unfold M.NextPage at hF
 refine Ad<|Bz (cs:=[u3,(I a3.2)]) hC0 z z z fun b1 w1 hC1 hB1 hN1=>Bz (cs:=[(I a4.1.1),u4,(I a4.2.1),(I a4.2.2)]) hC1 z z z fun b2 w2 hC2 hB2 hN2=>Af z z<|Bd hC2 zero49 z z fun b3 w3 hC3 hB3 hN3=>Af z z<|Ab<|Ad<|At [(I a4.1.1),u4,(I a4.2.1),(I a4.2.2)] hC3 1 z z z Bp AC z z<|be hF fun x1 hr1 hF=>AJ Tryz.call56 z z (c_M_copyCursor ((a4.1.1,a4.1.2),a4.2.1,a4.2.2) u4 (g4.now hC3.keep) x1 hr1)<|?_
 rintro v1 w4 ⟨hB4,F1,hv1,hn1,hb1⟩
 have hC4:=hC3.push hB4 (A:=Ag v1 x1) hv1 hn1 hb1
 obtain ⟨v2,rfl,hC5⟩:=st49_own hC4
 refine Bd hC5 zero49 z z fun b4 w5 hC6 hB5 hN4=>Aj (cs':=[(I x1.1.1),v2,(I x1.2.1),(I x1.2.2)]) (new:=[(I x1.1.1),v2,(I x1.2.1),(I x1.2.2)]) hC6 0 z z (fac z<|fac (AT (hC6.ro 1 z))<|fac z<|fac z<|fa0) z AC z z fun w6 hC7 hKp1=>?_
 try dsimp only [List.set] at hC7
 have hk1:=Ar (((((Al hB1).then hB2).then hB3).then hB4).then hB5) (Ao ((((Al hB1).then hB2).then hB3).then hB4).size hN4) hKp1
 have hk2:=Ar ((((Al hB2).then hB3).then hB4).then hB5) (Ao (((Al hB2).then hB3).then hB4).size hN4) hKp1
 have hk3:=Ar (((Al hB3).then hB4).then hB5) (Ao ((Al hB3).then hB4).size hN4) hKp1
 have hk4:=Ar ((Al hB4).then hB5) (Ao (Al hB4).size hN4) hKp1
 have hk5:=Ar (Al hB5) hN4 hKp1
 refine Ab<|AA<|Bb<|be hF fun r1 hr2 hF=>BL (fun l w=>∃x2:Bool,x2=r1∧l=[(1,u2),(4,(I a5)),(7,(ptr b1 0)),(8,(ptr b2 0)),(11,(ptr b3 0)),(13,(ptr b4 0)),(20,(.bool x2))]∧Below w6.heap.size w6 w∧Ctx [] w0 w [Ac b4 [(I x1.1.1),v2,(I x1.2.1),(I x1.2.2)],Ag v2 (x1.1.2:(List Int)),Ac b3 [(I 0),(.slice none 0 0),(I 0),(I 0)],Ac b2 [(I a4.1.1),u4,(I a4.2.1),(I a4.2.2)],Ac b1 [u3,(I a3.2)]]) ?_ ?_
 ·refine Bt<|Ae z z<|At [u3,(I a3.2)] hC7 4 z z z A8 Az z z<|be hr2 fun x3 hr3 hr2=>cb Tryz.call10 z z (c_M_IsSource a1 u1 (g1.now hC7.keep) (a3.1,a3.2) u3 (g3.now hC7.keep) x3 hr3) fun w9 hB7=>have hC9:=hC7.grow hB7;B2 z z<|Ae z z<|B3 (fun hc1=>?_) (fun hc1=>?_)
  ·replace hr2:=AD hr2 hc1
   refine gs z z z z<|gs z z z z<|gs z z z z<|gs z z z z<|gs z z z z<|gs z z z z<|AI z z z<|Ae z z<|gs z z z z<|gs z z z z<|gs z z z z<|AI z z z<|Ae z z<|gs z z z z<|gs z z z z<|gs z z z z<|gs z z z z<|AI z z z<|Af z z<|Ab<|?_
   obtain rfl:=Aa hr2
   exact Ay (l':=[(1,u2),(4,(I a5)),(7,(ptr b1 0)),(8,(ptr b2 0)),(11,(ptr b3 0)),(13,(ptr b4 0)),(20,(.bool true))]) ⟨z,z,z,z,z,z,z,Ak⟩<|⟨true,z,z,(Al hB7).below,hC9⟩
  replace hr2:=AE hr2 hc1
  refine Ai z z<|Ae z z<|Ai z z<|Ae z z<|Ai z z<|fd Br A9 z z z z<|Ai z z<|At [(I a4.1.1),u4] hC9 3 z z z Bl A9 z z<|be hr2 fun x4 hr4 hr2=>Ai z z<|cb Tryz.call50 z z (c_M_IsAccess a1 u1 (g1.now hC9.keep) a2 u2 (g2.now hC9.keep) (a4.1.1,a4.1.2) u4 (g4.now hC9.keep) x4 hr4) fun w10 hB8=>have hC10:=hC9.grow hB8;Ai z z<|B2 z z<|AY z z z<|Ae z z<|B3 (fun hc2=>?_) (fun hc2=>?_)
  ·replace hr2:=AD hr2 hc2
   refine gs z z z z<|gs z z z z<|gs z z z z<|AI z z z<|Ae z z<|gs z z z z<|gs z z z z<|gs z z z z<|gs z z z z<|AI z z z<|Af z z<|Ab<|?_
   obtain rfl:=Aa hr2
   exact Ay (l':=[(1,u2),(4,(I a5)),(7,(ptr b1 0)),(8,(ptr b2 0)),(11,(ptr b3 0)),(13,(ptr b4 0)),(20,(.bool true))]) ⟨z,z,z,z,z,z,z,Ak⟩<|⟨true,z,z,((Al hB7).then hB8).below,hC10⟩
  replace hr2:=AE hr2 hc2
  refine Ai z z<|Ae z z<|be hr2 fun x5 hr5 hr2=>Ai z z<|cb Tryz.call57 z z (c_M_isPage a5 x5 hr5) fun w11 hB9=>have hC11:=hC10.grow hB9;Ai z z<|B2 z z<|AY z z z<|Ae z z<|B3 (fun hc3=>?_) (fun hc3=>?_)
  ·replace hr2:=AD hr2 hc3
   refine gs z z z z<|gs z z z z<|gs z z z z<|gs z z z z<|AI z z z<|Af z z<|Ab<|?_
   obtain rfl:=Aa hr2
   exact Ay (l':=[(1,u2),(4,(I a5)),(7,(ptr b1 0)),(8,(ptr b2 0)),(11,(ptr b3 0)),(13,(ptr b4 0)),(20,(.bool true))]) ⟨z,z,z,z,z,z,z,Ak⟩<|⟨true,z,z,(((Al hB7).then hB8).then hB9).below,hC11⟩
  replace hr2:=AE hr2 hc3
  refine Ai z z<|fd Br Ax z z z z<|Ai z z<|Aq hC11 3 z z A6 z z<|be hr2 fun x6 hr6 hr2=>Ai z z<|cb BQ z z (c_M_within a4.2.1 0 1000 x6 hr6) fun w12 hB10=>have hC12:=hC11.grow hB10;Ai z z<|B2 z z<|AY z z z<|Af z z<|Ab<|?_
  obtain rfl:=Aa hr2
  exact Ay (l':=[(1,u2),(4,(I a5)),(7,(ptr b1 0)),(8,(ptr b2 0)),(11,(ptr b3 0)),(13,(ptr b4 0)),(20,(.bool (!x6)))]) ⟨z,z,z,z,z,z,z,Ak⟩<|⟨(!x6),z,z,((((Al hB7).then hB8).then hB9).then hB10).below,hC12⟩
 rintro _ w7 ⟨x2,rfl,rfl,hB6,hC8⟩
 try dsimp only at hF
 refine AL z (fun hc4=>?_) (fun hc4=>?_)
 ·replace hF:=AD hF hc4
  refine AA<|W_drawn 4 z hmix fun w13 hB11=>have hC13:=hC8.grow hB11;ta 1 z z z<|oe 0 z<|At [(I x1.1.1),v2,(I x1.2.1),(I x1.2.2)] hC13 0 z z z Bp AC z z<|Ab<|oe 2 z<|Aj (cs':=[(I x1.1.1),v2,(I x1.2.1),(I x1.2.2)]) (new:=[(I x1.1.1),v2,(I x1.2.1),(I x1.2.2)]) hC13 2 z z (fac z<|fac (AT (hC13.ro 1 z))<|fac z<|fac z<|fa0) z AC z z fun w14 hC14 hKp2=>?_
  try dsimp only [List.set] at hC14
  have hk6:=Ar ((hk1.then hB6).then hB11) (Ao ((Al hB1).then hB2).size hN3) hKp2
  have hk7:=Ar ((hk2.then hB6).then hB11) (Ao (Al hB2).size hN3) hKp2
  have hk8:=Ar ((hk3.then hB6).then hB11) hN3 hKp2
  refine Ab<|ta 3 z z z<|dn<|Av<|AK<|Bu<|A2<|?_
  obtain rfl:=Aa hF
  refine Co z (rv_tmp z) (rv_cell_agg (cs':=[(I x1.1.1),v2,(I x1.2.1),(I x1.2.2)]) hC14 (i:=2) z z z Bp AC z) (rv_tmp z) ?_
  have hC15:=hC14.triv (Bv (3))
  have hC17:=hC15.f2
  have hC16:=BW x1.1.1 v2 x1.1.2 x1.2.1 x1.2.2 hC17
  have hC18:=hC16.triv (nil_val (α:=(Int × (List Int))))
  exact ⟨_,z,res3_of hC18⟩
 replace hF:=AE hF hc4
 refine Ad<|fd Br Ax z z z z<|Aq hC8 3 z z A6 z z<|fd A5 Ax z z z z<|Aq hC8 4 z z A6 z z<|Cl z z z<|Af z z<|Ab<|AL z (fun hc5=>?_) (fun hc5=>?_)
 ·replace hF:=AD hF hc5
  refine AA<|W_drawn 4 z hmix fun w15 hB12=>have hC19:=hC8.grow hB12;ta 1 z z z<|oe 0 z<|At [(I x1.1.1),v2,(I x1.2.1),(I x1.2.2)] hC19 0 z z z Bp AC z z<|Ab<|oe 2 z<|Aj (cs':=[(I x1.1.1),v2,(I x1.2.1),(I x1.2.2)]) (new:=[(I x1.1.1),v2,(I x1.2.1),(I x1.2.2)]) hC19 2 z z (fac z<|fac (AT (hC19.ro 1 z))<|fac z<|fac z<|fa0) z AC z z fun w16 hC20 hKp3=>?_
  try dsimp only [List.set] at hC20
  have hk9:=Ar ((hk1.then hB6).then hB12) (Ao ((Al hB1).then hB2).size hN3) hKp3
  have hk10:=Ar ((hk2.then hB6).then hB12) (Ao (Al hB2).size hN3) hKp3
  have hk11:=Ar ((hk3.then hB6).then hB12) hN3 hKp3
  refine Ab<|ta 3 z z z<|dn<|Av<|AK<|Bu<|A2<|?_
  obtain rfl:=Aa hF
  refine Co z (rv_tmp z) (rv_cell_agg (cs':=[(I x1.1.1),v2,(I x1.2.1),(I x1.2.2)]) hC20 (i:=2) z z z Bp AC z) (rv_tmp z) ?_
  have hC21:=hC20.triv (Bv (2))
  have hC23:=hC21.f2
  have hC22:=BW x1.1.1 v2 x1.1.2 x1.2.1 x1.2.2 hC23
  have hC24:=hC22.triv (nil_val (α:=(Int × (List Int))))
  exact ⟨_,z,res3_of hC24⟩
 replace hF:=AE hF hc5
 refine AM<|Bg<|Av<|Ad<|Ae z z<|fd A5 AG z z z z<|Aq hC8 4 z z Bk z z<|fd Br A9 z z z z<|At [(I a4.1.1),u4] hC8 3 z z z Bl A9 z z<|be hF fun x7 hr7 hF=>AJ Tryz.call58 z z (c_M_matches a2 u2 (g2.now hC8.keep) a3.1 u3 (g3.now hC8.keep) (a4.1.1,a4.1.2) u4 (g4.now hC8.keep) x7 hr7)<|?_
 rintro v3 w17 ⟨hB13,F2,hv6,hn2,hb2⟩
 have hC25:=hC8.push hB13 (A:=Ag v3 x7) hv6 hn2 hb2
 refine Af z z<|Ab<|Ad<|Ae z z<|fd Br Ax z z z z<|Aq hC25 4 z z A6 z z<|Ae z z<|be hF fun x8 hr8 hF=>AJ Tryz.call59 z z (c_M_PageAt x7 v3 ((hC25.ro 0 z).now (B5 _ _)) a4.2.1 a5 x8 hr8)<|?_
 rintro _ w18 ⟨hB14,v4,v5,v6,F3,F4,F5,rfl,hv7,hv8,hv9,hn3,hb3⟩
 obtain ⟨rfl,rfl⟩:=val_int hv8
 obtain ⟨rfl,rfl⟩:=val_bool hv9
 have hC26:=hC25.pushL hB14 (Bs:=[Ag v4 x8.1]) (Fs:=[F3]) ⟨F3,_,z,hv7,z⟩ (by simpa using hn3) (fun b h=>hb3 b (by simpa using h))
 refine Ae z z<|Bn z z z<|Bn z z z<|Bn z z z<|Af z z<|Af z z<|Af z z<|Ab<|AA<|Ad<|Ae z z<|B2 z z<|Ab<|AL z (fun hc6=>?_) (fun hc6=>?_)
 ·replace hF:=AD hF hc6
  refine AA<|W_drawn 4 z hmix fun w19 hB15=>have hC27:=hC26.grow hB15;ta 1 z z z<|oe 0 z<|At [(I x1.1.1),v2,(I x1.2.1),(I x1.2.2)] hC27 2 z z z Bp AC z z<|Ab<|oe 2 z<|Aj (cs':=[(I x1.1.1),v2,(I x1.2.1),(I x1.2.2)]) (new:=[(I x1.1.1),v2,(I x1.2.1),(I x1.2.2)]) hC27 4 z z (fac z<|fac (AT (hC27.ro 3 z))<|fac z<|fac z<|fa0) z AC z z fun w20 hC28 hKp4=>?_
  try dsimp only [List.set] at hC28
  have hk12:=Ar ((((hk1.then hB6).then hB13).then hB14).then hB15) (Ao ((Al hB1).then hB2).size hN3) hKp4
  have hk13:=Ar ((((hk2.then hB6).then hB13).then hB14).then hB15) (Ao (Al hB2).size hN3) hKp4
  have hk14:=Ar ((((hk3.then hB6).then hB13).then hB14).then hB15) hN3 hKp4
  refine Ab<|ta 3 z z z<|dn<|Av<|AK<|A2<|?_
  obtain rfl:=Aa hF
  refine Co z (rv_tmp z) (rv_cell_agg (cs':=[(I x1.1.1),v2,(I x1.2.1),(I x1.2.2)]) hC28 (i:=4) z z z Bp AC z) (rv_tmp z) ?_
  have hC29:=hC28.triv (Bv (3))
  have hC31:=hC29.f4
  have hC30:=BW x1.1.1 v2 x1.1.2 x1.2.1 x1.2.2 hC31
  have hC32:=hC30.triv (nil_val (α:=(Int × (List Int))))
  exact ⟨_,z,res3_of hC32⟩
 replace hF:=AE hF hc6
 refine AM<|Av<|Ad<|Ae z z<|fd Br Ax z z z z<|Bc (cs':=[(I x1.1.1),v2,(I x8.2.1),(I x1.2.2)]) hC26 2 z z z z Ax z z fun w21 hC33 hKp5=>?_
 try dsimp only [List.set] at hC33
 have hk15:=Ar (((hk1.then hB6).then hB13).then hB14) (Ao ((((Al hB1).then hB2).then hB3).then hB4).size hN4) hKp5
 have hk16:=Ar (((hk2.then hB6).then hB13).then hB14) (Ao (((Al hB2).then hB3).then hB4).size hN4) hKp5
 have hk17:=Ar (((hk3.then hB6).then hB13).then hB14) (Ao ((Al hB3).then hB4).size hN4) hKp5
 have hk18:=Ar (((hk4.then hB6).then hB13).then hB14) (Ao (Al hB4).size hN4) hKp5
 have hk19:=Ar (((hk5.then hB6).then hB13).then hB14) hN4 hKp5
 refine Ab<|AA<|Ad<|Ae z z<|Ae z z<|Bo Ah (hC33.ro 1 z) z z<|BP z z z<|Ab<|AL z (fun hc7=>?_) (fun hc7=>?_)
 ·replace hF:=AD hF hc7
  refine AA<|W_drawn 5 z hmix fun w22 hB16=>have hC34:=hC33.grow hB16;tm 0 z z z<|ta 2 z z z<|oe 1 z<|At [(I x1.1.1),v2,(I x8.2.1),(I x1.2.2)] hC34 2 z z z Bp AC z z<|Ab<|oe 3 z<|Aj (cs':=[(I x1.1.1),v2,(I x8.2.1),(I x1.2.2)]) (new:=[(I x1.1.1),v2,(I x8.2.1),(I x1.2.2)]) hC34 4 z z (fac z<|fac (AT (hC34.ro 3 z))<|fac z<|fac z<|fa0) z AC z z fun w23 hC35 hKp6=>?_
  try dsimp only [List.set] at hC35
  have hk20:=Ar (hk15.then hB16) (Ao ((Al hB1).then hB2).size hN3) hKp6
  have hk21:=Ar (hk16.then hB16) (Ao (Al hB2).size hN3) hKp6
  have hk22:=Ar (hk17.then hB16) hN3 hKp6
  refine Ab<|ta 4 z z z<|dn<|Av<|AK<|A2<|?_
  obtain rfl:=Aa hF
  refine Co z (rv_tmp z) (rv_cell_agg (cs':=[(I x1.1.1),v2,(I x8.2.1),(I x1.2.2)]) hC35 (i:=4) z z z Bp AC z) (rv_tmp z) ?_
  have hC36:=hC35.triv (Bv (1))
  have hC38:=hC36.f4
  have hC37:=BW x1.1.1 v2 x1.1.2 x8.2.1 x1.2.2 hC38
  have hC39:=hC37.f2
  exact ⟨_,z,res3_of hC39⟩
 replace hF:=AE hF hc7
 refine AM<|Av<|AA<|W_drawn 5 z hmix fun w24 hB17=>have hC40:=hC33.grow hB17;tm 0 z z z<|ta 2 z z z<|oe 1 z<|At [(I x1.1.1),v2,(I x8.2.1),(I x1.2.2)] hC40 2 z z z Bp AC z z<|Ab<|oe 3 z<|Aj (cs':=[(I x1.1.1),v2,(I x8.2.1),(I x1.2.2)]) (new:=[(I x1.1.1),v2,(I x8.2.1),(I x1.2.2)]) hC40 4 z z (fac z<|fac (AT (hC40.ro 3 z))<|fac z<|fac z<|fa0) z AC z z fun w25 hC41 hKp7=>?_
 try dsimp only [List.set] at hC41
 have hk23:=Ar (hk15.then hB17) (Ao ((Al hB1).then hB2).size hN3) hKp7
 have hk24:=Ar (hk16.then hB17) (Ao (Al hB2).size hN3) hKp7
 have hk25:=Ar (hk17.then hB17) hN3 hKp7
 refine Ab<|ta 4 z z z<|dn<|Av<|AK<|?_
 obtain rfl:=Aa hF
 refine Co z (rv_tmp z) (rv_cell_agg (cs':=[(I x1.1.1),v2,(I x8.2.1),(I x1.2.2)]) hC41 (i:=4) z z z Bp AC z) (rv_tmp z) ?_
 have hC42:=hC41.triv (Bv (0))
 have hC44:=hC42.f4
 have hC43:=BW x1.1.1 v2 x1.1.2 x8.2.1 x1.2.2 hC44
 have hC45:=hC43.f2
 exact ⟨_,z,res3_of hC45⟩
end Go.Gx.Px
