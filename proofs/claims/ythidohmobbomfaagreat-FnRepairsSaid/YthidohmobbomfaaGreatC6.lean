/- The contracts of the Go functions against the pure functions, printed by program. Conditions: each says them. -/
import Derived.Test.YthidohmobbomfaaGreatC5
set_option linter.unusedVariables false
set_option linter.unusedSimpArgs false
set_option maxRecDepth 100000
set_option maxHeartbeats 4000000
namespace Go.Gx.Px
open Go.Proofs Go.RowKit
open K9
theorem c_Slices_Insert_Limpl_Fact_impl_Fact {Fs:List Tn} {w0:World} (a1:Tc) (u1:Value) (a2:Int) (a3:Tc) (u2:Value) (hH:Hold [Ad u1 (a1:Tc),Ad u2 (a3:Tc)] w0 Fs) (hn:Fs.flatten.Nodup) (rr:Tc) (hF:Slices.Insert_Limpl_Fact_impl_Fact a1 a2 a3=some rr) :
 Calls Tryz.prog 191 [u1,(I a2),u2].toArray w0 fun e w'=>∃v,e=.returned v∧∃q0:Value,v=q0∧Ctx Fs.flatten w0 w' [Ad q0 (rr:Tc)]:=by
 refine Av Tryz.func191 z z ?_
 have hC0:=B7 hH hn
 unfold Slices.Insert_Limpl_Fact_impl_Fact at hF
 obtain ⟨m,rfl,hm,hb1,hlim,rfl⟩:=ins_some hF
 have hsub:sub a1 (m:Int) (a1.length:Int)=some (a1.drop m):=by unfold sub; rw [if_pos (by omega)]; simp
 have hb1':(a3.length:Int)=1:=by omega
 have hlim':a1.length+1 ≤ 4294967296:=by rw [LIM_eq] at hlim; exact hlim
 have hw1:w64 ((a1.length:Int)+1)=((a1.length+1:Nat):Int):=by rw [w64_id (by omega) (by omega)]; omega
 have hw2:w64 (((a1.length+1:Nat):Int) - (m:Int))=((a1.length+1 - m:Nat):Int):=by rw [w64_id (by omega) (by omega)]; omega
 have hw3:w64 ((m:Int)+1)=((m+1:Nat):Int):=by rw [w64_id (by omega) (by omega)]; omega
 refine Ac<|Af z z<|Aa<|Ac<|Ae z z<|Ae z z<|WL_slice_l Ak ty77 (hC0.ro 0 z) hsub z z z fun v1 h1=>Aa<|Ac<|Ae z z<|AH Ak (hC0.ro 1 z) z z<|?_
 rw [hb1']
 refine Af z z<|Aa<|A0<|Ac<|Ae z z<|BD z z z<|Aa<|C5 z<|A5<|Am<|Ac<|Ae z z<|AH Ak (hC0.ro 0 z) z z<|Af z z<|Aa<|A0<|Ac<|Ae z z<|Ae z z<|BD z z z<|?_
 by_cases hi:m=a1.length
 ·have e1:a1.take m ++ a3 ++ a1.drop m=a1 ++ a3:=by rw [List.take_of_length_le (by omega),List.drop_of_length_le (by omega),List.append_nil]
  rw [e1,decide_eq_true (show (m:Int)=(a1.length:Int) by omega)]
  refine Aa<|C4 z<|Ac<|Ae z z<|Ae z z<|?_
  have happ:app a1 a3=some (a1 ++ a3):=by unfold app; rw [if_pos (by omega)]
  exact Bf hC0.swap 0 z Ak ty77 z happ z z z fun v2 w2 hC2=>Af z z<|Aa<|AF<|Ax<|BI z z<|⟨_,z,_,z,hC2⟩
 rw [decide_eq_false (show ¬ (m:Int)=(a1.length:Int) by omega)]
 refine Aa<|C5 z<|A5<|Am<|?_
 have hml:m < a1.length:=by omega
 obtain ⟨b,c,row,T,cells,Fe,vb,vc,vrow,vT,vcells,Ge,rfl,rfl,h4,g4,h5,g5,h6,g6,h8,g8,h10,h11,h12,h13,h14,h15,hK⟩:=hC0.ins_raw (by intro e; rw [e] at hml; simp at hml) (by intro e; rw [e] at hb1; simp at hb1)
 have hcl:=elems_len h5
 have hvl:=elems_len g5
 rw [hb1] at hvl
 have hyl:(cells.drop (m * Rep.sz Tb)).length=(a1.length - m) * Rep.sz Tb:=by rw [List.length_drop,hcl,Nat.sub_mul]
 have hvr:(vrow.toList.drop 0).take (1 * Rep.sz Tb)=vcells:=by rw [List.drop_zero,← g6,hb1]
 have hv1:=elems_one g5
 have hy1:∀ u ∈ cells.drop (m * Rep.sz Tb),u.oneCell'=true:=fun u hu=>elems_one h5 u (List.mem_of_mem_drop hu)
 refine A0<|Ac<|Ae z z<|Ae z z<|AW z z z<|?_
 rw [hw1]
 refine Ae z z<|WL_cap Ak z z<|Ck z z z<|?_
 by_cases hr:c < a1.length+1
 ·rw [decide_eq_true (show (c:Int) < ((a1.length+1:Nat):Int) by omega)]
  refine Aa<|C4 z<|Ac<|Ae z z<|Ae z z<|WL_sl_h Ak ty77 (show m ≤ c by omega) (by omega) z z z<|Ae z z<|Ae z z<|AW z z z<|?_
  rw [hw1]
  refine Ae z z<|Cb z z z<|?_
  rw [hw2]
  refine WL_zeros Ak ty77 z Cu h4 (take_cells h6 hm) (by rw [List.length_take,hcl,Nat.min_eq_left (Nat.mul_le_mul_right _ hm)]) (show 0 < a1.length+1 - m by omega) (by omega) (by rw [LIM_eq]; omega) z z z (fun c' row' k1 k2 k3 k4=>?_)
  rw [show m+(a1.length+1 - m)=a1.length+1 by omega] at k3 ⊢
  obtain ⟨q1,q2,q3⟩:=row_grow (row':=row') hm hcl hvl k1 k2 k3
  obtain ⟨w1,hw1e⟩:∃w1,w1=w0.drew.alloc (.cells row' 77):=⟨_,z⟩
  have hA1:w1.heap[w0.heap.size]?=some (.cells row' 77 (0,0)):=by rw [hw1e]; exact heap_alloc_new w0.drew _
  have hB1:Below w0.heap.size w0 w1:=by rw [hw1e]; exact below_new w0 _
  rw [← hw1e]
  refine Af z z<|Aa<|Ac<|Ae z z<|Ae z z<|Cs Ak ty77 (show m < c' by omega) (show m ≤ a1.length+1 by omega) k3 z z z<|Ae z z<|CQ (m:=1) Ak ty77 hA1 ((hB1.block vb (heap_lt g4)).trans g4) (by show CR a3.length (a1.length+1 - m)=1; rw [hb1]; exact Nat.min_eq_left (by omega)) hvr hvl hv1 (by rw [hvl,k2,Nat.zero_add,← Nat.add_mul]; exact Nat.mul_le_mul_right _ (by omega)) z z z<|?_
  generalize hr1:(row'.toList.take (0+m * Rep.sz Tb) ++ vcells ++ row'.toList.drop (0+m * Rep.sz Tb+vcells.length)).toArray=r1 at q1 q2 q3 ⊢
  have hA2:(w1.setRow w0.heap.size r1).heap[w0.heap.size]?=some (.cells r1 77 (0,0)):=setRow_heap _ _ _ _ _ _ hA1
  have hB2:Below w0.heap.size w0 (w1.setRow w0.heap.size r1):=below_row hB1 (Da _)
  refine Aa<|A0<|W_drawn 9 z hmix fun w3 hB3=>tk 0 z z (Ca z)<|Ae z z<|Aa<|tk 1 z z (Ca z)<|Ae z z<|Aa<|tk 2 z z (Ca z)<|Ae z z<|Aa<|tk 3 z z (fl_add z z)<|AW z z z<|?_
  rw [hw3]
  refine Aa<|tk 4 z z (CS Ak ty77 (show m+1 < c' by omega) (show m+1 ≤ a1.length+1 by omega) k3 z z)<|Cs Ak ty77 (show m+1 < c' by omega) (show m+1 ≤ a1.length+1 by omega) k3 z z z<|Aa<|tk 5 z z (Ca z)<|Ae z z<|Aa<|tk 6 z z (Ca z)<|Ae z z<|Aa<|tk 7 z z (CS Ak ty77 (show m < c by omega) hm h10 z z)<|Cs Ak ty77 (show m < c by omega) hm h10 z z z<|Aa<|?_
  have hA3:w3.heap[w0.heap.size]?=some (.cells r1 77 (0,0)):=(hB3.block _ (heap_lt hA2)).trans hA2
  have hB30:Below w0.heap.size w0 w3:=hB2.trans ⟨hB3.os,hB3.tape,hB3.output,hB3.size,fun k hk=>hB3.block k (Nat.lt_of_lt_of_le hk hB2.size)⟩
  refine oe 8 z<|CQ (m:=a1.length - m) Ak ty77 hA3 ((hB30.block b (heap_lt h4)).trans h4) (by show CR (a1.length - m) (a1.length+1 - (m+1))=a1.length - m; rw [show a1.length+1 - (m+1)=a1.length - m by omega]; exact Nat.min_self _) (drop_cells h6) hyl hy1 (by rw [hyl,q3,Nat.zero_add,← Nat.add_mul]; exact Nat.mul_le_mul_right _ (by omega)) z z z<|?_
  generalize hr2:(r1.toList.take (0+(m+1) * Rep.sz Tb) ++ cells.drop (m * Rep.sz Tb) ++ r1.toList.drop (0+(m+1) * Rep.sz Tb+(cells.drop (m * Rep.sz Tb)).length)).toArray=r2 at q1 q2 ⊢
  refine Aa<|dn<|Am<|Ac<|Ae z z<|Af z z<|Aa<|AF<|Ax<|BI z z<|?_
  have hB4:Below w0.heap.size w0 (w3.setRow w0.heap.size r2):=below_row hB30 (Da _)
  have hin:∀ k ∈ Fe ++ Ge,k < w0.heap.size:=fun k hk=>(List.mem_append.1 hk).elim (elems_inh h5 k) (elems_inh g5 k)
  obtain ⟨F',e1,e2,e3⟩:=ins_val (w':=w3.setRow w0.heap.size r2) h5 g5 h14 hm hb1 (g:=w0.heap.size) (fun h=>absurd (hin _ h) (Nat.lt_irrefl _)) (setRow_heap _ _ _ _ _ _ hA3) (fun k hk=>hB4.block k (hin k hk)) q1 q2 k3 k4
  exact ⟨_,z,_,z,hK _ _ _ F' ⟨hB4.os,hB4.tape,hB4.output,hB4.size,fun k hk _=>hB4.block k hk⟩ e1 e2 (fun k hk=>(e3 k hk).elim (fun h=>.inr (.inr (Nat.le_of_eq h.symm))) (fun h=>.inr (.inl h)))⟩
 rw [decide_eq_false (show ¬ (c:Int) < ((a1.length+1:Nat):Int) by omega)]
 refine Aa<|C5 z<|A5<|Am<|?_
 have k3:a1.length+1 ≤ c:=by omega
 obtain ⟨q1,q2,q3⟩:=row_shift hm hcl hvl h6 h8 k3
 refine Ac<|Ae z z<|Ae z z<|Ae z z<|AW z z z<|?_
 rw [hw1]
 refine WL_sl_h Ak ty77 k3 (by omega) z z z<|Af z z<|Aa<|A0<|Ac<|Ae z z<|Ae z z<|Ae z z<|Ae z z<|AW z z z<|?_
 rw [hw3]
 refine Cs Ak ty77 (show m+1 < c by omega) (show m+1 ≤ a1.length+1 by omega) k3 z z z<|WL_apart (R:=4) (run_callFunc_extern Tryz.func217 (by kernel_rfl) (by kernel_rfl) (by kernel_rfl) (by kernel_rfl)) Ak ty77 h13 h4 g4 (by rw [h8]; exact Nat.ne_of_gt (Nat.mul_pos (by omega) (by decide))) z z z<|Bv z z<|Aa<|C4 z<|A0<|W_drawn 9 z hmix fun w3 hB3=>tk 0 z z (Ca z)<|Ae z z<|Aa<|tk 1 z z (Ca z)<|Ae z z<|Aa<|tk 2 z z (Ca z)<|Ae z z<|Aa<|tk 3 z z (fl_add z z)<|AW z z z<|?_
 rw [hw3]
 refine Aa<|tk 4 z z (CS Ak ty77 (show m+1 < c by omega) (show m+1 ≤ a1.length+1 by omega) k3 z z)<|Cs Ak ty77 (show m+1 < c by omega) (show m+1 ≤ a1.length+1 by omega) k3 z z z<|Aa<|tk 5 z z (Ca z)<|Ae z z<|Aa<|tk 6 z z (Ca z)<|Ae z z<|Aa<|tk 7 z z (CS Ak ty77 (show m < c by omega) (show m ≤ a1.length+1 by omega) k3 z z)<|Cs Ak ty77 (show m < c by omega) (show m ≤ a1.length+1 by omega) k3 z z z<|Aa<|?_
 have hA3:w3.heap[b]?=some (.cells row T (0,0)):=(hB3.block _ (heap_lt h4)).trans h4
 refine oe 8 z<|CQ (m:=a1.length - m) Ak ty77 hA3 hA3 (by show CR (a1.length+1 - m) (a1.length+1 - (m+1))=a1.length - m; rw [show a1.length+1 - (m+1)=a1.length - m by omega]; exact Nat.min_eq_right (by omega)) (drop_cells h6) hyl hy1 (by rw [hyl,h8,Nat.zero_add,← Nat.add_mul]; exact Nat.mul_le_mul_right _ (by omega)) z z z<|?_
 generalize hr1:(row.toList.take (0+(m+1) * Rep.sz Tb) ++ cells.drop (m * Rep.sz Tb) ++ row.toList.drop (0+(m+1) * Rep.sz Tb+(cells.drop (m * Rep.sz Tb)).length)).toArray=r1 at q1 q2 q3 ⊢
 have hA4:(w3.setRow b r1).heap[b]?=some (.cells r1 T (0,0)):=setRow_heap _ _ _ _ _ _ hA3
 have g43:(w3.setRow b r1).heap[vb]?=some (.cells vrow vT (0,0)):=(setRow_other _ _ _ _ h13).trans ((hB3.block _ (heap_lt g4)).trans g4)
 refine Aa<|dn<|Am<|Ac<|Ae z z<|Ae z z<|Cs Ak ty77 (show m < c by omega) (show m ≤ a1.length+1 by omega) k3 z z z<|Ae z z<|CQ (m:=1) Ak ty77 hA4 g43 (by show CR a3.length (a1.length+1 - m)=1; rw [hb1]; exact Nat.min_eq_left (by omega)) hvr hvl hv1 (by rw [hvl,q3,Nat.zero_add,← Nat.add_mul]; exact Nat.mul_le_mul_right _ (by omega)) z z z<|?_
 generalize hr2:(r1.toList.take (0+m * Rep.sz Tb) ++ vcells ++ r1.toList.drop (0+m * Rep.sz Tb+vcells.length)).toArray=r2 at q1 q2 ⊢
 refine Aa<|Ac<|Ae z z<|Af z z<|Aa<|AF<|Ax<|BI z z<|?_
 have hK4:Keep [b] w0 ((w3.setRow b r1).setRow b r2):=Keep.row (Keep.row ⟨hB3.os,hB3.tape,hB3.output,hB3.size,fun k hk _=>hB3.block k hk⟩)
 have hin:∀ k ∈ Fe ++ Ge,k < w0.heap.size:=fun k hk=>(List.mem_append.1 hk).elim (elems_inh h5 k) (elems_inh g5 k)
 obtain ⟨F',e1,e2,e3⟩:=ins_val (w':=(w3.setRow b r1).setRow b r2) h5 g5 h14 hm hb1 (g:=b) h15 (setRow_heap _ _ _ _ _ _ hA4) (fun k hk=>hK4.block k (hin k hk) (by simp only [List.mem_singleton]; intro e; exact h15 (e ▸ hk))) q1 q2 k3 h11
 exact ⟨_,z,_,z,hK _ _ _ F' hK4 e1 e2 (fun k hk=>(e3 k hk).elim .inl (fun h=>.inr (.inl h)))⟩
theorem c_Slices_IndexFunc_Limpl_Fact_impl_Fact_M_added_c1 {w0:World} (a1:Tc) (u1:Value) (g1:RO [] w0 u1 a1) (pb1:Nat) (ax1:Tb) (g2:ROAt [] w0 pb1 0 ax1) (rr:Int) (hF:Slices.IndexFunc_Limpl_Fact_impl_Fact_M_added_c1 a1 ax1=some rr) :
 Calls Tryz.prog 189 [u1,(.func (.func 190) #[] #[(ptr pb1 0)])].toArray w0 fun e w'=>∃v,e=.returned v∧Res w0 rr v w':=by
 refine Av CF z z ?_
 have hC0:=A3 w0
 unfold Slices.IndexFunc_Limpl_Fact_impl_Fact_M_added_c1 at hF
 refine Ac<|Af z z<|Aa<|A0<|Ac<|Ae z z<|AH Ak g1 z z<|Ae z z<|Aa<|be hF fun r1 hr1 hF=>wN (fun l w=>.inl ()=r1∧l=[]∧Below w0.heap.size w0 w∧Ctx [] w0 w []) ?_ ?_
 ·refine A4<|wT<|Bj (fun k l w=>∃x1:Int,l=[(0,u1),(1,(.func (.func 190) #[] #[(ptr pb1 0)])),(7,(I (List.length a1:Int))),(8,(I x1))]∧Below w0.heap.size w0 w∧Ctx [] w0 w []∧Slices.IndexFunc_Limpl_Fact_impl_Fact_M_added_c1_l1 a1 ax1 k x1=some r1) FUEL ⟨0,z,(Aj _ _),hC0,hr1⟩<|?_
  clear hr1
  rintro k1 _ w1 ⟨x1,rfl,hB1,hC1,hL1⟩
  obtain _|k1:=k1<;>rw [Slices.IndexFunc_Limpl_Fact_impl_Fact_M_added_c1_l1] at hL1
  ·cases hL1
  refine Ac<|AZ z z z<|Aa<|A0<|wc hL1 z (fun hL1=>?_) fun hL1=>?_
  ·refine A5<|Am<|A0<|A4<|Ac<|Ae z z<|Af z z<|Aa<|Ac<|Ae z z<|Ae z z<|Ae z z<|be hL1 fun x2 hx1 hL1=>A9 Ak ty77 g1 hx1 z z z fun b1 o1 h1=>AD ty77 h1 hC1.keep z z fun v1 h2=>?_
   obtain ⟨v2,rfl,h3⟩:=BE h2
   refine be hL1 fun x3 hr2 hL1=>BL (cap:=[(ptr pb1 0)]) Tryz.call190 z z z (c_M_added_c1 x2 v2 (h3.now hC1.keep) pb1 ax1 (g2.now hC1.keep) x3 hr2) fun _ w2 hv1=>?_
   obtain ⟨rfl,hB2⟩:=BM hv1
   have hC2:=hC1.grow hB2
   refine Aa<|wc hL1 z (fun hL1=>?_) fun hL1=>?_
   ·refine Ac<|Ae z z<|Af z z<|Aa<|AF<|AT<|Ax<|Ax<|AT<|Ax<|Ax<|?_
    obtain rfl:=Ab hL1
    dsimp only at hF
    exact rI hF z z hC2
   exact A5<|AN<|Am<|AL<|AW z z z<|Ae z z<|Aa<|nS<|⟨k1,Aw _,w64 (x1+1),z,((Ao hB1).then hB2).below,hC2,hL1⟩
  refine Bi (A2 (A2 (AM ?_)))
  exact nS<|⟨Ab hL1,z,(Ao hB1).below,hC1⟩
 rintro _ w3 ⟨rfl,rfl,hB3,hC3⟩
 try dsimp only at hF
 exact Ac<|Af z z<|Aa<|AF<|rI hF z z hC3
theorem c_M_added {w0:World} {Fs:List Tn} (a1:Tc) (u1:Value) (a2:Tb) (u2:Value) (g2:RO Fs.flatten w0 u2 a2.2) (hH:Hold [Ad u1 (a1:Tc)] w0 Fs) (hn:Fs.flatten.Nodup) (rr:Tc) (hF:M.added a1 a2=some rr) :
 Calls Tryz.prog 144 [u1,(.agg #[(I a2.1),u2])].toArray w0 fun e w'=>∃v,e=.returned v∧∃q0:Value,v=q0∧Ctx Fs.flatten w0 w' [Ad q0 (rr:Tc)]:=by
 refine Av Tryz.func144 z z ?_
 have hC0:=B7 hH hn
 unfold M.added at hF
 refine Ac<|Be (cs:=[(I a2.1),u2]) hC0 z z z fun b1 w1 hC1 hB1 hN1=>Af z z<|Aa<|A0<|Ac<|Ae z z<|Az [(I a2.1),u2] hC1 0 z z z Bw Bb z z<|be hF fun x1 hr1 hF=>cb Tryz.call93 z z (c_M_HasFact a1 u1 ((hC1.ro 1 z).now (Ay _ _)) (a2.1,a2.2) u2 (g2.now hC1.keep) x1 hr1) fun w2 hB2=>have hC2:=hC1.grow hB2;Aa<|wc hF z (fun hF=>?_) fun hF=>?_
 ·refine Ac<|Ae z z<|Af z z<|Aa<|AF<|Ax<|?_
  obtain rfl:=Ab hF
  exact BI z z<|have hC3:=hC2.f1;have hC4:=hC3.h1;⟨_,z,_,z,hC4⟩
 refine A5<|Am<|Ac<|Ae z z<|BP z z<|be hF fun x2 hr2 hF=>ci CG z z (c_Slices_IndexFunc_Limpl_Fact_impl_Fact_M_added_c1 a1 u1 ((hC2.ro 1 z).now (Ay _ _)) b1 (a2.1,a2.2) (hC2.boxAt 0 z (repw_pair repw_int (repw_slice (g2.now hC2.keep)))) x2 hr2) fun w3 hB3=>have hC5:=hC2.grow hB3;Af z z<|Aa<|A0<|Ac<|Ae z z<|AZ z z z<|Aa<|be hF fun r1 hr3 hF=>wN (fun l w=>∃x3:Int,x3=r1∧l=[(0,u1),(3,(ptr b1 0)),(5,(I x3))]∧Below w3.heap.size w3 w∧Ctx Fs.flatten w0 w [Ah b1 [(I a2.1),u2],Ad u1 (a1:Tc)]) ?_ ?_
 ·refine wc hr3 z (fun hr3=>?_) fun hr3=>?_
  ·exact AL<|Ae z z<|AH Ak (hC5.ro 1 z) z z<|Af z z<|Aa<|nS<|⟨(List.length a1:Int),Ab hr3,z,(Aj _ _),hC5⟩
  exact A5<|nS<|⟨x2,Ab hr3,z,(Aj _ _),hC5⟩
 rintro _ w4 ⟨x3,rfl,rfl,hB4,hC6⟩
 refine Ac<|Ae z z<|Ae z z<|Az [(I a2.1),u2] hC6 0 z z z Bw Bb z z<|be hF fun x4 hr4 hF=>AA Tryz.call158 z z (c_M_copyFact (a2.1,a2.2) u2 (g2.now hC6.keep) x4 hr4)<|?_
 rintro v1 w5 ⟨hB5,F1,hv3,hn1,hb1⟩
 have hC7:=hC6.push hB5 (A:=Ad v1 x4) hv3 hn1 hb1
 obtain ⟨v2,rfl,hC8⟩:=st77_own hC7
 refine Ar (vs:=[(.agg #[(I x4.1),v2])]) hC8 Ak ty77 z z z z (fac z<|fa0) z z (fun b2 w6 hC9 hB6=>?_)
 have hC10:=hC9.row0 (α:=Tb)
 have hC12:=hC10.f2
 have hC11:=Cc x4.1 v2 x4.2 hC12
 have hC13:=hC11.row1
 have hC14:=hC13.front 1 z
 dsimp only [List.eraseIdx,List.cons_append,List.nil_append,List.append_nil] at hC14
 have hC15:Ctx Fs.flatten w0 w6 (Ad (.slice (some ⟨b2,0,none⟩) 1 1) ([(x4.1,x4.2)]:List Tb)::[Ah b1 [(I a2.1),u2],Ad u1 (a1:Tc)]):=hC14.rowOwn (by simp [maxLen])
 refine be hF fun x5 hr5 hF=>have hC17:=hC15.f2;?_
 obtain ⟨Fs1,hH1,hn2,hF1,hO1,hb2⟩:=Dh (As:=[Ah b1 [(I a2.1),u2]]) [Ad u1 (a1:Tc),Ad (.slice (some ⟨b2,0,none⟩) 1 1) ([(x4.1,x4.2)]:Tc)] hC17
 refine AA Tryz.call191 z z (c_Slices_Insert_Limpl_Fact_impl_Fact a1 u1 x3 ([(x4.1,x4.2)]) (.slice (some ⟨b2,0,none⟩) 1 1) hH1 hn2 x5 hr5) ?_
 rintro v3 w7 ⟨_,rfl,hq4⟩
 have hC18:Ctx Fs.flatten w0 w7 [Ad v3 x5,Ah b1 [(I a2.1),u2]]:=hb2 _ _ hq4
 refine Af z z<|Aa<|AF<|?_
 obtain rfl:=Ab hF
 exact BI z z<|have hC20:=hC18.h1;⟨_,z,_,z,hC20⟩
theorem c_M_UnionOf {w0:World} (a1:Tg) (u1:Value) (g1:RO [] w0 u1 a1) (rr:Tc) (hF:M.UnionOf a1=some rr) :
 Calls Tryz.prog 90 [u1].toArray w0 fun e w'=>∃v,e=.returned v∧Res w0 rr v w':=by
 refine Av Tryz.func90 z z ?_
 have hC0:=A3 w0
 unfold M.UnionOf at hF
 refine Ac<|Af z z<|Aa<|Ac<|Ar (vs:=[]) hC0 Ak ty77 z z z z (by simp) z z fun b1 w1 hC1 hB1=>?_
 have hC4:=hC1.rowE (α:=Tb)
 refine Af z z<|Aa<|A0<|Ac<|Ae z z<|AH A8 g1 z z<|Ae z z<|Aa<|be hF fun r1 hr1 hF=>wN (fun l w=>∃v2:Value,∃x3:Tc,x3=r1∧l=[(3,v2)]∧Ctx [] w0 w [Ad v2 x3]) ?_ ?_
 ·refine A4<|wT<|Bj (fun k l w=>∃v1:Value,∃x1:Tc,∃x2:Int,l=[(3,v1),(9,u1),(10,(I (List.length a1:Int))),(11,(I x2))]∧Ctx [] w0 w [Ad v1 x1]∧M.UnionOf_l1 a1 k x1 x2=some r1) FUEL ⟨(.slice (some ⟨b1,0,none⟩) 0 0),([]:List Tb),0,z,hC4,hr1⟩<|?_
  clear hr1
  rintro k1 _ w2 ⟨v1,x1,x2,rfl,hC5,hL1⟩
  obtain _|k1:=k1<;>rw [M.UnionOf_l1] at hL1
  ·cases hL1
  refine Ac<|AZ z z z<|Aa<|A0<|wc hL1 z (fun hL1=>?_) fun hL1=>?_
  ·refine A5<|Am<|A0<|A4<|Ac<|be hL1 fun x4 hx1 hL1=>A9 A8 ty84 g1 hx1 z z z fun b2 o1 h1=>AD ty84 h1 hC5.keep z z fun v3 h2=>?_
   obtain ⟨v4,v5,rfl,h3,h4⟩:=C2 h2
   refine Bq hC5 zero84 z z fun b3 w3 hC6 hB3 hN1=>AE (cs':=[(I x4.1.1),v4,v5]) (new:=[(I x4.1.1),v4,v5]) hC6 0 z z (fac z<|fac (Br h3)<|fac (Br h4)<|fa0) z B3 z z fun w4 hC7 hKp1=>?_
   try dsimp only [List.set] at hC7
   have hk1:=AV (Ao hB3) hN1 hKp1
   refine Aa<|Ac<|fd AR Bx z z z z<|Al hC7 0 z z B8 z z<|AH Ak h4 z z<|Ae z z<|Aa<|be hL1 fun r2 hr2 hL1=>wB (fun l w=>∃v7:Value,∃x7:Tc,x7=r2∧l=[(3,v7),(9,u1),(10,(I (List.length a1:Int))),(11,(I x2))]∧Ctx [] w0 w [Ad v7 x7]) ?_ ?_
   ·refine A4<|have hC14:=hC7.f1;have hC15:=hC14.h1;wT<|Bj (fun k l w=>∃v6:Value,∃x5:Tc,∃x6:Int,l=[(3,v6),(9,u1),(10,(I (List.length a1:Int))),(11,(I x2)),(16,v5),(17,(I (List.length x4.2:Int))),(18,(I x6))]∧Ctx [] w0 w [Ad v6 x5]∧M.UnionOf_l2 x4 k x5 x6=some r2) FUEL ⟨v1,x1,0,z,hC15,hr2⟩<|?_
    clear hr2
    rintro k2 _ w5 ⟨v6,x5,x6,rfl,hC8,hL2⟩
    obtain _|k2:=k2<;>rw [M.UnionOf_l2] at hL2
    ·cases hL2
    refine Ac<|AZ z z z<|Aa<|A0<|wc hL2 z (fun hL2=>?_) fun hL2=>?_
    ·refine A5<|Am<|A0<|A4<|Ac<|be hL2 fun x8 hx2 hL2=>A9 Ak ty77 h4 hx2 z z z fun b4 o2 h5=>AD ty77 h5 hC8.keep z z fun v8 h6=>?_
     obtain ⟨v9,rfl,h7⟩:=BE h6
     refine Bq hC8 zero77 z z fun b5 w6 hC9 hB5 hN2=>AE (cs':=[(I x8.1),v9]) (new:=[(I x8.1),v9]) hC9 0 z z (fac z<|fac (Br h7)<|fa0) z Bb z z fun w7 hC10 hKp2=>?_
     try dsimp only [List.set] at hC10
     have hk2:=AV (Ao hB5) hN2 hKp2
     refine Aa<|AL<|Ae z z<|Az [(I x8.1),v9] hC10 0 z z z Bw Bb z z<|be hL2 fun x9 hr3 hL2=>have hC11:=hC10.f1;?_
     obtain ⟨Fs1,hH1,hn1,hF1,hO1,hb1⟩:=hC11.lA
     refine AA Tryz.call144 z z (c_M_added x5 v6 (x8.1,x8.2) v9 (Bd h7 hC11.keep hF1) hH1 hn1 x9 hr3) ?_
     rintro v10 w9 ⟨_,rfl,hq1⟩
     have hC12:=hb1 _ _ hq1
     exact Af z z<|Aa<|AN<|Am<|AL<|AW z z z<|Ae z z<|Aa<|have hC13:=hC12.h1;nS<|⟨k2,Aw _,v10,x9,w64 (x6+1),z,hC13,hL2⟩
    refine Bi (A2 (A2 (AM ?_)))
    exact nS<|⟨v6,x5,Ab hL2,z,hC8⟩
   rintro _ w10 ⟨v7,x7,rfl,rfl,hC16⟩
   exact AL<|AW z z z<|Ae z z<|Aa<|nS<|⟨k1,Aw _,v7,x7,w64 (x2+1),z,hC16,hL1⟩
  refine Bi (A2 (A2 (AM ?_)))
  exact nS<|⟨v1,x1,Ab hL1,z,hC5⟩
 rintro _ w11 ⟨v2,x3,rfl,rfl,hC17⟩
 exact Ac<|Ae z z<|Af z z<|Aa<|AF<|rO hF z z hC17 0 z
theorem c_M_parted_c1 {w0:World} (a1:Ta) (u1:Value) (g1:RO [] w0 u1 a1) (pb1:Nat) (ax1:Tg) (g2:ROAt [] w0 pb1 0 ax1) (pb2:Nat) (ax2:Tb) (g3:ROAt [] w0 pb2 0 ax2) (rr:Bool) (hF:M.parted_c1 a1 ax1 ax2=some rr) :
 Calls Tryz.prog 92 [u1,(ptr pb1 0),(ptr pb2 0)].toArray w0 fun e w'=>∃v,e=.returned v∧Res w0 rr v w':=by
 refine Av Tryz.func92 z z ?_
 have hC0:=A3 w0
 unfold M.parted_c1 at hF
 refine Ac<|Af z z<|Aa<|A0<|W_drawn 8 z hmix fun w1 hB1=>have hC1:=hC0.grow hB1;tm 1 z z z<|be hF fun x1 hr1 hF=>be hF fun x2 hr2 hF=>wAS (l':=[(0,u1),(1,(ptr pb1 0)),(2,(ptr pb2 0)),(4,(.bool false)),(6,u1)]) ⟨z,z,z,z,z,A6⟩<|Bg [⟨0,[],fun vs=>Cj [] w0 ax1,[]⟩,⟨2,[],fun vs=>BS x1,[]⟩,⟨3,[],fun vs=>BS x2,[]⟩,⟨4,[],fun vs=>Cj [] w0 ax2,[]⟩] [[],[0],[2],[]] 3 z (by kernel_rfl) (by kernel_rfl) z ?_ ?_
 ·refine An z ?_ ?_
  ·intro w4 hB4
   refine At<|⟨_,z,?_⟩
   exact AD ty26 g2 (hC1.keep.then hB4) z z fun v1 h1=>Aa<|A1 (Aj _ _) z z ⟨z,h1⟩
  refine An z ?_ ?_
  ·intro w4 hB4
   refine AG z z z ?_
   rintro v1 _ ⟨rfl,h1⟩ _
   refine At<|⟨_,z,?_⟩
   refine AA CZ z z (c_M_Without ax1 v1 (h1.now (hC1.keep.then hB4)) a1 u1 (g1.now (hC1.keep.then hB4)) x1 hr1) ?_
   rintro v2 w2 ⟨hB2,F1,hv1,hn1,hb1⟩
   exact Aa<|BZ hB2 z z hv1 hn1 hb1 (Val.inh hv1)
  refine An z ?_ ?_
  ·intro w4 hB4
   refine AG z z z fun v2 F1 hv1 _=>At<|⟨_,z,?_⟩
   refine AA Tryz.call90 z z (c_M_UnionOf x1 v2 (CI hv1) x2 hr2) ?_
   rintro v3 w3 ⟨hB3,F2,hv2,hn2,hb2⟩
   exact Aa<|BZ hB3 z z hv2 hn2 hb2 (Val.inh hv2)
  refine An z ?_ ?_
  ·intro w4 hB4
   refine At<|⟨_,z,?_⟩
   exact AD ty77 g3 (hC1.keep.then hB4) z z fun v6 h4=>Aa<|A1 (Aj _ _) z z ⟨z,h4⟩
  exact AX
 intro w5 hB5
 refine Ap z z z ?_
 rintro v1 _ ⟨rfl,h1⟩
 refine Ap z z z fun v2 F1 hv1=>Ap z z z fun v3 F2 hv2=>Ap z z z<|?_
 rintro v6 _ ⟨rfl,h4⟩
 obtain ⟨v5,rfl,h3⟩:=BE h4
 refine Bm ?_
 intro hn3 hb3
 have hC2:=hC1.pushL hB5 (Bs:=[Ad v3 x2,Ad v2 x1]) (Fs:=[F2,F1]) ⟨F2,_,z,hv2,F1,_,z,hv1,z⟩ (by simpa using hn3) (fun b h=>(hb3 b (by simpa using h)).1)
 exact be hF fun x3 hr3 hF=>oe 5 z<|cb Tryz.call93 z z (c_M_HasFact x2 v3 ((hC2.ro 0 z).now (Ay _ _)) ax2 v5 (h3.now hC2.keep) x3 hr3) fun w6 hB6=>have hC3:=hC2.grow hB6;Aa<|tk 6 z z (Cw z)<|Bv z z<|Aa<|ta 7 z z z<|dn<|Am<|AF<|rB hF z z hC3
theorem c_Slices_IndexFunc_LLint_Lint_M_parted_c1 {w0:World} (a1:Tj) (u1:Value) (g1:RO [] w0 u1 a1) (pb1:Nat) (ax1:Tg) (g2:ROAt [] w0 pb1 0 ax1) (pb2:Nat) (ax2:Tb) (g3:ROAt [] w0 pb2 0 ax2) (rr:Int) (hF:Slices.IndexFunc_LLint_Lint_M_parted_c1 a1 ax1 ax2=some rr) :
 Calls Tryz.prog 140 [u1,(.func (.func 92) #[] #[(ptr pb1 0),(ptr pb2 0)])].toArray w0 fun e w'=>∃v,e=.returned v∧Res w0 rr v w':=by
 refine Av Tryz.func140 z z ?_
 have hC0:=A3 w0
 unfold Slices.IndexFunc_LLint_Lint_M_parted_c1 at hF
 refine Ac<|Af z z<|Aa<|A0<|Ac<|Ae z z<|AH AC g1 z z<|Ae z z<|Aa<|be hF fun r1 hr1 hF=>wN (fun l w=>.inl ()=r1∧l=[]∧Below w0.heap.size w0 w∧Ctx [] w0 w []) ?_ ?_
 ·refine A4<|wT<|Bj (fun k l w=>∃x1:Int,l=[(0,u1),(1,(.func (.func 92) #[] #[(ptr pb1 0),(ptr pb2 0)])),(7,(I (List.length a1:Int))),(8,(I x1))]∧Below w0.heap.size w0 w∧Ctx [] w0 w []∧Slices.IndexFunc_LLint_Lint_M_parted_c1_l1 a1 ax1 ax2 k x1=some r1) FUEL ⟨0,z,(Aj _ _),hC0,hr1⟩<|?_
  clear hr1
  rintro k1 _ w1 ⟨x1,rfl,hB1,hC1,hL1⟩
  obtain _|k1:=k1<;>rw [Slices.IndexFunc_LLint_Lint_M_parted_c1_l1] at hL1
  ·cases hL1
  refine Ac<|AZ z z z<|Aa<|A0<|wc hL1 z (fun hL1=>?_) fun hL1=>?_
  ·refine A5<|Am<|A0<|A4<|Ac<|Ae z z<|Af z z<|Aa<|Ac<|Ae z z<|Ae z z<|Ae z z<|be hL1 fun x2 hx1 hL1=>A9 AC ty24 g1 hx1 z z z fun b1 o1 h1=>AD ty24 h1 hC1.keep z z fun v1 h2=>be hL1 fun x3 hr2 hL1=>BL (cap:=[(ptr pb1 0),(ptr pb2 0)]) Tryz.call92 z z z (c_M_parted_c1 x2 v1 (h2.now hC1.keep) pb1 ax1 (g2.now hC1.keep) pb2 ax2 (g3.now hC1.keep) x3 hr2) fun _ w2 hv1=>?_
   obtain ⟨rfl,hB2⟩:=BM hv1
   have hC2:=hC1.grow hB2
   refine Aa<|wc hL1 z (fun hL1=>?_) fun hL1=>?_
   ·refine Ac<|Ae z z<|Af z z<|Aa<|AF<|AT<|Ax<|Ax<|AT<|Ax<|Ax<|?_
    obtain rfl:=Ab hL1
    dsimp only at hF
    exact rI hF z z hC2
   exact A5<|AN<|Am<|AL<|AW z z z<|Ae z z<|Aa<|nS<|⟨k1,Aw _,w64 (x1+1),z,((Ao hB1).then hB2).below,hC2,hL1⟩
  refine Bi (A2 (A2 (AM ?_)))
  exact nS<|⟨Ab hL1,z,(Ao hB1).below,hC1⟩
 rintro _ w3 ⟨rfl,rfl,hB3,hC3⟩
 try dsimp only at hF
 exact Ac<|Af z z<|Aa<|AF<|rI hF z z hC3
theorem c_Slices_ContainsFunc_LLint_Lint_M_parted_c1 {w0:World} (a1:Tj) (u1:Value) (g1:RO [] w0 u1 a1) (pb1:Nat) (ax1:Tg) (g2:ROAt [] w0 pb1 0 ax1) (pb2:Nat) (ax2:Tb) (g3:ROAt [] w0 pb2 0 ax2) (rr:Bool) (hF:Slices.ContainsFunc_LLint_Lint_M_parted_c1 a1 ax1 ax2=some rr) :
 Calls Tryz.prog 91 [u1,(.func (.func 92) #[] #[(ptr pb1 0),(ptr pb2 0)])].toArray w0 fun e w'=>∃v,e=.returned v∧Res w0 rr v w':=by
 refine Av Tryz.func91 z z ?_
 have hC0:=A3 w0
 unfold Slices.ContainsFunc_LLint_Lint_M_parted_c1 at hF
 exact Ac<|Af z z<|Aa<|Ac<|Ae z z<|Ae z z<|be hF fun x1 hr1 hF=>ci Tryz.call140 z z (c_Slices_IndexFunc_LLint_Lint_M_parted_c1 a1 u1 (g1.now hC0.keep) pb1 ax1 (g2.now hC0.keep) pb2 ax2 (g3.now hC0.keep) x1 hr1) fun w1 hB1=>have hC1:=hC0.grow hB1;Cr z z z<|Af z z<|Aa<|AF<|rB hF z z hC1
theorem c_M_parted {w0:World} (a1:Ta) (u1:Value) (g1:RO [] w0 u1 a1) (a2:Tf) (u2:Value) (g2:RO [] w0 u2 a2) (a3:Tg) (u3:Value) (g3:RO [] w0 u3 a3) (rr:(Tc × Tc × Bool)) (hF:M.parted a1 a2 a3=some rr) :
 Calls Tryz.prog 52 [u1,u2,u3].toArray w0 fun e w'=>∃v,e=.returned v∧Res3 w0 rr.1 rr.2.1 rr.2.2 v w':=by
 refine Av Tryz.func52 z z ?_
 have hC0:=A3 w0
 unfold M.parted at hF
 refine Ac<|Be (cs:=[u3]) hC0 (ro_cells g3) z z fun b1 w1 hC1 hB1 hN1=>Af z z<|Af z z<|Af z z<|Aa<|Ac<|Ae z z<|Ae z z<|Al hC1 0 z z Cy z z<|be hF fun x1 hr1 hF=>AA Tryz.call46 z z (c_M_removals a1 u1 (g1.now hC1.keep) a2 u2 (g2.now hC1.keep) a3 u3 (g3.now hC1.keep) x1 hr1)<|?_
 rintro _ w2 ⟨hB2,v1,v2,F1,F2,rfl,hv1,hv2,hn1,hb1⟩
 obtain ⟨rfl,rfl⟩:=val_bool hv2
 have hC2:=hC1.pushL hB2 (Bs:=[Ad v1 x1.1]) (Fs:=[F1]) ⟨F1,_,z,hv1,z⟩ (by simpa using hn1) (fun b h=>hb1 b (by simpa using h))
 refine Ae z z<|Bk z z z<|Bk z z z<|Af z z<|Af z z<|Aa<|A0<|Ac<|Ae z z<|Bv z z<|Aa<|wc hF z (fun hF=>?_) fun hF=>?_
 ·refine Ac<|Af z z<|Af z z<|Af z z<|Aa<|AF<|Ax<|?_
  obtain rfl:=Ab hF
  refine C1 z z z z ?_
  have hC3:=hC2.triv (BN (false))
  have hC4:=hC3.triv (nil_val (α:=Tb))
  have hC5:=hC4.triv (nil_val (α:=Tb))
  exact ⟨_,z,res3_of hC5⟩
 refine A5<|Am<|Ac<|Ar (vs:=[]) hC2 Ak ty77 z z z z (by simp) z z fun b2 w3 hC6 hB3=>?_
 have hC9:=hC6.rowE (α:=Tb)
 refine Ar (vs:=[]) hC9 Ak ty77 z z z z (by simp) z z (fun b3 w4 hC10 hB4=>?_)
 have hC13:=hC10.rowE (α:=Tb)
 refine Af z z<|Af z z<|Aa<|A0<|Ac<|Al hC13 3 z z Cy z z<|be hF fun x2 hr2 hF=>AA Tryz.call90 z z (c_M_UnionOf a3 u3 (g3.now hC13.keep) x2 hr2)<|?_
 rintro v3 w5 ⟨hB5,F3,hv3,hn2,hb2⟩
 have hC14:=hC13.push hB5 (A:=Ad v3 x2) hv3 hn2 hb2
 refine AH Ak (hC14.ro 0 z) z z<|Ae z z<|Aa<|be hF fun r1 hr3 hF=>have hC15:=hC14.ownRest;wN (fun l w=>∃v6:Value,∃x6:Tc,∃v7:Value,∃x7:Tc,(x6,x7)=r1∧l=[(11,v6),(12,v7)]∧Ctx [] w0 w [Ad v7 x7,Ad v6 x6]) ?_ ?_
 ·refine A4<|wT<|Bj (fun k l w=>∃v4:Value,∃x3:Tc,∃v5:Value,∃x4:Tc,∃x5:Int,l=[(5,(ptr b1 0)),(9,v1),(11,v4),(12,v5),(27,v3),(28,(I (List.length x2:Int))),(29,(I x5))]∧Ctx [] w0 w [Item.rest v3 x2 (Int.toNat x5),Ad v5 x4,Ad v4 x3,Ad v1 x1.1,Ah b1 [u3]]∧M.parted_l1 x2 x1 a3 k x3 x4 x5=some r1) FUEL ⟨(.slice (some ⟨b2,0,none⟩) 0 0),([]:List Tb),(.slice (some ⟨b3,0,none⟩) 0 0),([]:List Tb),0,z,hC15,hr3⟩<|?_
  clear hr3
  rintro k1 _ w6 ⟨v4,x3,v5,x4,x5,rfl,hC16,hL1⟩
  obtain _|k1:=k1<;>rw [M.parted_l1] at hL1
  ·cases hL1
  refine Ac<|AZ z z z<|Aa<|A0<|wc hL1 z (fun hL1=>?_) fun hL1=>?_
  ·refine A5<|Am<|A0<|A4<|be hL1 fun x8 hx1 hL1=>?_
   obtain ⟨b4,cs1,hE1,hC17⟩:=hC16.openRest hx1
   obtain ⟨v8,he1,hC18⟩:=st77_own (hC17.cellsOwn z)
   obtain rfl:=cells_of_agg he1
   refine Ac<|Cz hC18 1 z Ak ty77 hE1 hx1 z z z<|Ct (fo:=0) (cs':=[(I x8.1),v8]) hC18 1 z hE1 z z z Bw Bb z z<|Bq hC18 zero77 z z fun b5 w7 hC19 hB7 hN2=>AE (cs':=[(I x8.1),v8]) (new:=[(I x8.1),v8]) hC19 0 z z (fac z<|fac (Br (hC19.ro 1 z))<|fa0) z Bb z z fun w9 hC20 hKp1=>?_
   try dsimp only [List.set] at hC20
   have hk1:=AV (Ao hB7) hN2 hKp1
   refine Aa<|Ac<|Ae z z<|BP z z<|be hL1 fun x9 hr4 hL1=>cb Tryz.call91 z z (c_Slices_ContainsFunc_LLint_Lint_M_parted_c1 x1.1 v1 ((hC20.ro 5 z).now (Ay _ _)) b1 a3 (hC20.boxAt 6 z (repw_slice (g3.now hC20.keep))) b5 (x8.1,x8.2) (hC20.boxAt 0 z (repw_pair repw_int (repw_slice (hC20.ro 1 z)))) x9 hr4) fun w10 hB8=>have hC21:=hC20.grow hB8;Aa<|be hL1 fun r2 hr5 hL1=>wB (fun l w=>∃v9:Value,∃x10:Tc,∃v10:Value,∃x11:Tc,(x10,x11)=r2∧l=[(5,(ptr b1 0)),(9,v1),(11,v9),(12,v10),(27,v3),(28,(I (List.length x2:Int))),(29,(I x5))]∧Ctx [] w0 w [C0 v3 x2 (Int.toNat x5) [(I x8.1),v8],Ad v10 x11,Ad v9 x10,Ad v1 x1.1,Ah b1 [u3]]) ?_ ?_
   ·refine wc hr5 z (fun hr5=>?_) fun hr5=>?_
    ·refine AL<|Ae z z<|Az [(I x8.1),v8] hC21 0 z z z Bw Bb z z<|Ar (vs:=[(.agg #[(I x8.1),v8])]) hC21 Ak ty77 z z z z (fac z<|fa0) z z fun b6 w12 hC23 hB10=>?_
     have hC24:=hC23.row0 (α:=Tb)
     have hC26:=hC24.f3
     have hC25:=Cc x8.1 v8 x8.2 hC26
     have hC27:=hC25.row1
     have hC28:=hC27.front 1 z
     dsimp only [List.eraseIdx,List.cons_append,List.nil_append,List.append_nil] at hC28
     have hC29:Ctx [] w0 w12 (Ad (.slice (some ⟨b6,0,none⟩) 1 1) ([(x8.1,x8.2)]:List Tb)::[Ah b5 [(I x8.1),v8],C0 v3 x2 (Int.toNat x5) [(I x8.1),v8],Ad v5 x4,Ad v4 x3,Ad v1 x1.1,Ah b1 [u3]]):=hC28.rowOwn (by simp [maxLen])
     refine be hr5 fun x12 hx2 hr5=>Bf hC29 2 z Ak ty77 z hx2 z z z fun v11 w13 hC30=>?_
     try dsimp only [List.set] at hC30
     refine Af z z<|Aa<|?_
     have hC37:=hC30.f5.f5.f5.f5.f5.h5
     exact nS<|⟨v4,x3,v11,x12,Ab hr5,z,hC37⟩
    refine AL<|Ae z z<|Az [(I x8.1),v8] hC21 0 z z z Bw Bb z z<|Ar (vs:=[(.agg #[(I x8.1),v8])]) hC21 Ak ty77 z z z z (fac z<|fa0) z z fun b7 w14 hC38 hB11=>?_
    have hC39:=hC38.row0 (α:=Tb)
    have hC41:=hC39.f3
    have hC40:=Cc x8.1 v8 x8.2 hC41
    have hC42:=hC40.row1
    have hC43:=hC42.front 1 z
    dsimp only [List.eraseIdx,List.cons_append,List.nil_append,List.append_nil] at hC43
    have hC44:Ctx [] w0 w14 (Ad (.slice (some ⟨b7,0,none⟩) 1 1) ([(x8.1,x8.2)]:List Tb)::[Ah b5 [(I x8.1),v8],C0 v3 x2 (Int.toNat x5) [(I x8.1),v8],Ad v5 x4,Ad v4 x3,Ad v1 x1.1,Ah b1 [u3]]):=hC43.rowOwn (by simp [maxLen])
    refine be hr5 fun x13 hx3 hr5=>Bf hC44 3 z Ak ty77 z hx3 z z z fun v12 w15 hC45=>?_
    try dsimp only [List.set] at hC45
    refine Af z z<|Aa<|?_
    have hC52:=hC45.f5.f5.f5.f5.f5.h5
    exact nS<|⟨v12,x13,v5,x4,Ab hr5,z,hC52⟩
   rintro _ w11 ⟨v9,x10,v10,x11,rfl,rfl,hC22⟩
   try dsimp only at hL1
   refine AL<|AW z z z<|Ae z z<|Aa<|?_
   have hC53:=Ctx.rholeNext hx1 hC22
   exact nS<|⟨k1,Aw _,v9,x10,v10,x11,w64 (x5+1),z,hC53,hL1⟩
  refine Bi (A2 (A2 (AM ?_)))
  have hC56:=hC16.f2.f2.h2
  exact nS<|⟨v4,x3,v5,x4,Ab hL1,z,hC56⟩
 rintro _ w16 ⟨v6,x6,v7,x7,rfl,rfl,hC57⟩
 try dsimp only at hF
 refine Ac<|Ae z z<|Ae z z<|Af z z<|Af z z<|Af z z<|Aa<|AF<|?_
 obtain rfl:=Ab hF
 refine C1 z z z z ?_
 have hC58:=hC57.triv (BN (true))
 have hC60:=hC58.f1.f2
 exact ⟨_,z,res3_of hC60⟩
theorem c_M_TrustedFacts {w0:World} (a1:Ta) (u1:Value) (g1:RO [] w0 u1 a1) (a2:Tf) (u2:Value) (g2:RO [] w0 u2 a2) (a3:Tg) (u3:Value) (g3:RO [] w0 u3 a3) (rr:Tc) (hF:M.TrustedFacts a1 a2 a3=some rr) :
 Calls Tryz.prog 13 [u1,u2,u3].toArray w0 fun e w'=>∃v,e=.returned v∧Res w0 rr v w':=by
 refine Av Tryz.func13 z z ?_
 have hC0:=A3 w0
 unfold M.TrustedFacts at hF
 refine Ac<|Af z z<|Aa<|Ac<|Ae z z<|Ae z z<|Ae z z<|be hF fun x1 hr1 hF=>AA Tryz.call52 z z (c_M_parted a1 u1 (g1.now hC0.keep) a2 u2 (g2.now hC0.keep) a3 u3 (g3.now hC0.keep) x1 hr1)<|?_
 rintro _ w1 ⟨hB1,v1,v2,v3,F1,F2,F3,rfl,hv1,hv2,hv3,hn1,hb1⟩
 obtain ⟨rfl,rfl⟩:=val_bool hv3
 have hC1:=hC0.pushL hB1 (Bs:=[Ad v1 x1.1,Ad v2 x1.2.1]) (Fs:=[F1,F2]) ⟨F1,_,z,hv1,F2,_,z,hv2,z⟩ (by simpa using hn1) (fun b h=>hb1 b (by simpa using h))
 exact Ae z z<|Bk z z z<|Bk z z z<|Bk z z z<|Af z z<|Af z z<|Af z z<|Aa<|Ac<|Ae z z<|Af z z<|Aa<|AF<|rO hF z z hC1 0 z
theorem c_M_DoubtedFacts {w0:World} (a1:Ta) (u1:Value) (g1:RO [] w0 u1 a1) (a2:Tf) (u2:Value) (g2:RO [] w0 u2 a2) (a3:Tg) (u3:Value) (g3:RO [] w0 u3 a3) (rr:Tc) (hF:M.DoubtedFacts a1 a2 a3=some rr) :
 Calls Tryz.prog 14 [u1,u2,u3].toArray w0 fun e w'=>∃v,e=.returned v∧Res w0 rr v w':=by
 refine Av Tryz.func14 z z ?_
 have hC0:=A3 w0
 unfold M.DoubtedFacts at hF
 refine Ac<|Af z z<|Aa<|Ac<|Ae z z<|Ae z z<|Ae z z<|be hF fun x1 hr1 hF=>AA Tryz.call52 z z (c_M_parted a1 u1 (g1.now hC0.keep) a2 u2 (g2.now hC0.keep) a3 u3 (g3.now hC0.keep) x1 hr1)<|?_
 rintro _ w1 ⟨hB1,v1,v2,v3,F1,F2,F3,rfl,hv1,hv2,hv3,hn1,hb1⟩
 obtain ⟨rfl,rfl⟩:=val_bool hv3
 have hC1:=hC0.pushL hB1 (Bs:=[Ad v1 x1.1,Ad v2 x1.2.1]) (Fs:=[F1,F2]) ⟨F1,_,z,hv1,F2,_,z,hv2,z⟩ (by simpa using hn1) (fun b h=>hb1 b (by simpa using h))
 exact Ae z z<|Bk z z z<|Bk z z z<|Bk z z z<|Af z z<|Af z z<|Af z z<|Aa<|Ac<|Ae z z<|Af z z<|Aa<|AF<|rO hF z z hC1 1 z
theorem c_S_SameFacts {w0:World} (a1:Tc) (u1:Value) (g1:RO [] w0 u1 a1) (a2:Tc) (u2:Value) (g2:RO [] w0 u2 a2) (rr:Bool) (hF:S.SameFacts a1 a2=some rr) :
 Calls Tryz.prog 15 [u1,u2].toArray w0 fun e w'=>∃v,e=.returned v∧Res w0 rr v w':=by
 refine Av Tryz.func15 z z ?_
 have hC0:=A3 w0
 unfold S.SameFacts at hF
 refine Ac<|Af z z<|Aa<|A0<|Ac<|Ae z z<|AH Ak g1 z z<|Ae z z<|AH Ak g2 z z<|BQ z z z<|Aa<|wc hF z (fun hF=>?_) fun hF=>?_
 ·exact Ac<|Af z z<|Aa<|AF<|Ax<|rB hF z z hC0
 refine A5<|Am<|A0<|Ac<|Af z z<|Aa<|be hF fun r1 hr1 hF=>wN (fun l w=>.inl ()=r1∧l=[]∧Below w0.heap.size w0 w∧Ctx [] w0 w []) ?_ ?_
 ·refine A4<|wT<|Bj (fun k l w=>∃x1:Int,l=[(0,u1),(1,u2),(5,(I x1))]∧Below w0.heap.size w0 w∧Ctx [] w0 w []∧S.SameFacts_l1 a1 a2 k x1=some r1) FUEL ⟨0,z,(Aj _ _),hC0,hr1⟩<|?_
  clear hr1
  rintro k1 _ w1 ⟨x1,rfl,hB1,hC1,hL1⟩
  obtain _|k1:=k1<;>rw [S.SameFacts_l1] at hL1
  ·cases hL1
  refine A0<|Ac<|Ae z z<|Ae z z<|AH Ak g1 z z<|AZ z z z<|Aa<|wc hL1 z (fun hL1=>?_) fun hL1=>?_
  ·refine A5<|Am<|A0<|A4<|A0<|W_drawn 10 z hmix fun w2 hB2=>have hC2:=hC1.grow hB2;tm 0 z z z<|tm 1 z z z<|be hL1 fun x2 hx1 hL1=>tk 2 z z (B5 Ak ty77 g1 hx1 z z)<|A9 Ak ty77 g1 hx1 z z z fun b1 o1 h1=>Aa<|tm 4 z z z<|tm 5 z z z<|be hL1 fun x3 hx2 hL1=>tk 6 z z (B5 Ak ty77 g2 hx2 z z)<|A9 Ak ty77 g2 hx2 z z z fun b2 o2 h2=>Aa<|wAS (l':=[(0,u1),(1,u2),(5,(I x1)),(11,(I x1)),(12,u1),(13,(I (List.length a1:Int))),(14,(.bool (decide (x1 < (List.length a1:Int))))),(17,u1),(18,(I x1)),(19,(ptr b1 o1)),(21,u2),(22,(I x1)),(23,(ptr b2 o2))]) ⟨z,z,z,z,z,z,z,z,z,z,z,z,z,A6⟩<|Bg [⟨3,[],fun vs=>Cj [] w0 x2,[]⟩,⟨7,[],fun vs=>Cj [] w0 x3,[]⟩] [[],[]] 2 z (by kernel_rfl) (by kernel_rfl) z ?_ ?_
   ·refine An z ?_ ?_
    ·intro w3 hB3
     refine At<|⟨_,z,?_⟩
     exact AD ty77 h1 (hC2.keep.then hB3) z z fun v3 h5=>Aa<|A1 (Aj _ _) z z ⟨z,h5⟩
    refine An z ?_ ?_
    ·intro w3 hB3
     refine At<|⟨_,z,?_⟩
     exact AD ty77 h2 (hC2.keep.then hB3) z z fun v6 h8=>Aa<|A1 (Aj _ _) z z ⟨z,h8⟩
    exact AX
   intro w4 hB4
   refine Ap z z z ?_
   rintro v3 _ ⟨rfl,h5⟩
   obtain ⟨v2,rfl,h4⟩:=BE h5
   refine Ap z z z ?_
   rintro v6 _ ⟨rfl,h8⟩
   obtain ⟨v5,rfl,h7⟩:=BE h8
   refine Bm fun hn1 hb1=>have hC3:=hC2.grow hB4;be hL1 fun x4 hr2 hL1=>oe 8 z<|ci CX z z (c_S_CompareFacts x2 v2 (h4.now hC3.keep) x3 v5 (h7.now hC3.keep) x4 hr2) fun w5 hB5=>have hC4:=hC3.grow hB5;Aa<|tk 9 z z (CM z z)<|BQ z z z<|Aa<|dn<|Am<|wc hL1 z (fun hL1=>?_) fun hL1=>?_
   ·refine Ac<|Af z z<|Aa<|AF<|AT<|Ax<|Ax<|AT<|Ax<|Ax<|?_
    obtain rfl:=Ab hL1
    dsimp only at hF
    exact rB hF z z hC4
   exact A5<|AN<|Am<|AL<|Ae z z<|AW z z z<|Af z z<|Aa<|nS<|⟨k1,Aw _,w64 (x1+1),z,((((Ao hB1).then hB2).then hB4).then hB5).below,hC4,hL1⟩
  refine Bi (A2 (A2 (AM ?_)))
  exact nS<|⟨Ab hL1,z,(Ao hB1).below,hC1⟩
 rintro _ w6 ⟨rfl,rfl,hB6,hC5⟩
 try dsimp only at hF
 exact Ac<|Af z z<|Aa<|AF<|rB hF z z hC5
theorem c_S_UnionOf {w0:World} (a1:Tg) (u1:Value) (g1:RO [] w0 u1 a1) (rr:Tc) (hF:S.UnionOf a1=some rr) :
 Calls Tryz.prog 20 [u1].toArray w0 fun e w'=>∃v,e=.returned v∧Res w0 rr v w':=by
 refine Av Tryz.func20 z z ?_
 have hC0:=A3 w0
 unfold S.UnionOf at hF
 refine Ac<|Af z z<|Aa<|Ac<|Ar (vs:=[]) hC0 Ak ty77 z z z z (by simp) z z fun b1 w1 hC1 hB1=>?_
 have hC4:=hC1.rowE (α:=Tb)
 refine Af z z<|Aa<|A0<|Ac<|Af z z<|Aa<|be hF fun r1 hr1 hF=>wN (fun l w=>∃v2:Value,∃x3:Tc,x3=r1∧l=[(3,v2)]∧Below w1.heap.size w1 w∧Ctx [] w0 w [Ad v2 x3]) ?_ ?_
 ·refine A4<|wT<|Bj (fun k l w=>∃v1:Value,∃x1:Tc,∃x2:Int,l=[(0,u1),(3,v1),(4,(I x2))]∧Below w1.heap.size w1 w∧Ctx [] w0 w [Ad v1 x1]∧S.UnionOf_l1 a1 k x1 x2=some r1) FUEL ⟨(.slice (some ⟨b1,0,none⟩) 0 0),([]:List Tb),0,z,(Aj _ _),hC4,hr1⟩<|?_
  clear hr1
  rintro k1 _ w2 ⟨v1,x1,x2,rfl,hB2,hC5,hL1⟩
  obtain _|k1:=k1<;>rw [S.UnionOf_l1] at hL1
  ·cases hL1
  refine A0<|Ac<|Ae z z<|Ae z z<|AH A8 g1 z z<|AZ z z z<|Aa<|wc hL1 z (fun hL1=>?_) fun hL1=>?_
  ·refine A5<|Am<|A0<|A4<|Ac<|Af z z<|Aa<|be hL1 fun r2 hr2 hL1=>wB (fun l w=>∃v4:Value,∃x6:Tc,x6=r2∧l=[(0,u1),(3,v4),(4,(I x2))]∧Below w2.heap.size w2 w∧Ctx [] w0 w [Ad v4 x6]) ?_ ?_
   ·refine A4<|wT<|Bj (fun k l w=>∃v3:Value,∃x4:Tc,∃x5:Int,l=[(0,u1),(3,v3),(4,(I x2)),(5,(I x5))]∧Below w2.heap.size w2 w∧Ctx [] w0 w [Ad v3 x4]∧S.UnionOf_l2 a1 x2 k x4 x5=some r2) FUEL ⟨v1,x1,0,z,(Aj _ _),hC5,hr2⟩<|?_
    clear hr2
    rintro k2 _ w3 ⟨v3,x4,x5,rfl,hB3,hC6,hL2⟩
    obtain _|k2:=k2<;>rw [S.UnionOf_l2] at hL2
    ·cases hL2
    refine A0<|Ac<|Ae z z<|Ae z z<|Ae z z<|be hL2 fun x7 hx1 hL2=>A9 A8 ty84 g1 hx1 z z z fun b2 o1 h1=>fd AR Bx z z z z<|AD ty35 h1.snd hC6.keep z z fun v5 h2=>AH Ak h2 z z<|AZ z z z<|Aa<|wc hL2 z (fun hL2=>?_) fun hL2=>?_
    ·refine A5<|Am<|A0<|A4<|AL<|Ae z z<|Ae z z<|Ae z z<|be hL2 fun x8 hx2 hL2=>A9 A8 ty84 g1 hx2 z z z fun b3 o2 h3=>fd AR Bx z z z z<|AD ty35 h3.snd hC6.keep z z fun v6 h4=>Ae z z<|be hL2 fun x9 hx3 hL2=>A9 Ak ty77 h4 hx3 z z z fun b4 o3 h5=>AD ty77 h5 hC6.keep z z fun v7 h6=>?_
     obtain ⟨v8,rfl,h7⟩:=BE h6
     refine be hL2 fun x10 hr3 hL2=>AA Tryz.call59 z z (c_S_AddFact x4 v3 ((hC6.ro 0 z).now (Ay _ _)) x9 v8 (h7.now hC6.keep) x10 hr3)<|?_
     rintro v9 w4 ⟨hB4,F1,hv1,hn1,hb1⟩
     have hC7:=hC6.push hB4 (A:=Ad v9 x10) hv1 hn1 hb1
     exact Af z z<|Aa<|AN<|Am<|AL<|Ae z z<|AW z z z<|Af z z<|Aa<|have hC8:=hC7.h1;nS<|⟨k2,Aw _,v9,x10,w64 (x5+1),z,((Ao hB3).then hB4).below,hC8,hL2⟩
    refine Bi (A2 (A2 (AM ?_)))
    exact nS<|⟨v3,x4,Ab hL2,z,(Ao hB3).below,hC6⟩
   rintro _ w5 ⟨v4,x6,rfl,rfl,hB5,hC9⟩
   exact AL<|Ae z z<|AW z z z<|Af z z<|Aa<|nS<|⟨k1,Aw _,v4,x6,w64 (x2+1),z,((Ao hB2).then hB5).below,hC9,hL1⟩
  refine Bi (A2 (A2 (AM ?_)))
  exact nS<|⟨v1,x1,Ab hL1,z,(Ao hB2).below,hC5⟩
 rintro _ w6 ⟨v2,x3,rfl,rfl,hB6,hC10⟩
 exact Ac<|Ae z z<|Af z z<|Aa<|AF<|rO hF z z hC10 0 z
theorem c_S_TrustedFacts {w0:World} (a1:Ta) (u1:Value) (g1:RO [] w0 u1 a1) (a2:Tf) (u2:Value) (g2:RO [] w0 u2 a2) (a3:Tg) (u3:Value) (g3:RO [] w0 u3 a3) (rr:Tc) (hF:S.TrustedFacts a1 a2 a3=some rr) :
 Calls Tryz.prog 16 [u1,u2,u3].toArray w0 fun e w'=>∃v,e=.returned v∧Res w0 rr v w':=by
 refine Av Tryz.func16 z z ?_
 have hC0:=A3 w0
 unfold S.TrustedFacts at hF
 refine Ac<|Af z z<|Aa<|Ac<|Ar (vs:=[]) hC0 Ak ty77 z z z z (by simp) z z fun b1 w1 hC1 hB1=>?_
 have hC4:=hC1.rowE (α:=Tb)
 refine Af z z<|Aa<|Ac<|Ae z z<|Ae z z<|Ae z z<|be hF fun x1 hr1 hF=>AA Tryz.call10 z z (c_S_AllRemovals a1 u1 (g1.now hC4.keep) a2 u2 (g2.now hC4.keep) a3 u3 (g3.now hC4.keep) x1 hr1)<|?_
 rintro v1 w2 ⟨hB2,F1,hv1,hn1,hb1⟩
 have hC5:=hC4.push hB2 (A:=Ad v1 x1) hv1 hn1 hb1
 refine Af z z<|Aa<|A0<|Ac<|Af z z<|Aa<|be hF fun r1 hr2 hF=>wN (fun l w=>∃v3:Value,∃x4:Tc,x4=r1∧l=[(7,v3)]∧Ctx [] w0 w [Ad v3 x4]) ?_ ?_
 ·refine A4<|wT<|Bj (fun k l w=>∃v2:Value,∃x2:Tc,∃x3:Int,l=[(2,u3),(7,v2),(8,v1),(9,(I x3))]∧Ctx [] w0 w [Ad v1 x1,Ad v2 x2]∧S.TrustedFacts_l1 x1 a3 k x2 x3=some r1) FUEL ⟨(.slice (some ⟨b1,0,none⟩) 0 0),([]:List Tb),0,z,hC5,hr2⟩<|?_
  clear hr2
  rintro k1 _ w3 ⟨v2,x2,x3,rfl,hC6,hL1⟩
  obtain _|k1:=k1<;>rw [S.TrustedFacts_l1] at hL1
  ·cases hL1
  refine A0<|Ac<|Ae z z<|Ae z z<|AH AC (hC6.ro 0 z) z z<|AZ z z z<|Aa<|wc hL1 z (fun hL1=>?_) fun hL1=>?_
  ·refine A5<|Am<|A0<|A4<|Ac<|Ae z z<|Ae z z<|Ae z z<|be hL1 fun x5 hx1 hL1=>A9 AC ty24 (hC6.ro 0 z) hx1 z z z fun b2 o1 h1=>AD ty24 h1 (Ay _ _) z z fun v4 h2=>be hL1 fun x6 hr3 hL1=>AA Dc z z (c_S_Without a3 u3 (g3.now hC6.keep) x5 v4 (h2.now (Ay _ _)) x6 hr3)<|?_
   rintro v5 w4 ⟨hB4,F2,hv2,hn2,hb2⟩
   have hC7:=hC6.push hB4 (A:=Ad v5 x6) hv2 hn2 hb2
   refine be hL1 fun x7 hr4 hL1=>AA Dd z z (c_S_UnionOf x6 v5 ((hC7.ro 0 z).now (Ay _ _)) x7 hr4)<|?_
   rintro v6 w5 ⟨hB5,F3,hv3,hn3,hb3⟩
   have hC8:=hC7.push hB5 (A:=Ad v6 x7) hv3 hn3 hb3
   refine Af z z<|Aa<|A0<|Ac<|Ae z z<|BD z z z<|Aa<|wc hL1 z (fun hL1=>?_) fun hL1=>?_
   ·exact Ac<|Ae z z<|Af z z<|Aa<|Bi<|A2<|AM<|Am<|AL<|Ae z z<|AW z z z<|Af z z<|Aa<|have hC9:=hC8.f2;have hC10:=hC9.h2;nS<|⟨k1,Aw _,v6,x7,w64 (x3+1),z,hC10,hL1⟩
   refine A5<|Am<|Ac<|Ar (vs:=[]) hC8 Ak ty77 z z z z (by simp) z z fun b3 w6 hC11 hB6=>?_
   have hC14:=hC11.rowE (α:=Tb)
   refine Af z z<|Aa<|A0<|Ac<|Af z z<|Aa<|be hL1 fun r2 hr5 hL1=>have hC15:=hC14.f4;have hC16:=hC15.ownRest;wN (fun l w=>∃v8:Value,∃x10:Tc,x10=r2∧l=[(2,u3),(8,v1),(9,(I x3)),(11,v8)]∧Ctx [] w0 w [Ad v8 x10,Ad v1 x1]) ?_ ?_
   ·refine A4<|have hC40:=hC16.f4;have hC41:=hC40.f3;have hC42:=hC41.f3;have hC43:=hC42.f3;have hC44:=hC43.h4;wT<|Bj (fun k l w=>∃v7:Value,∃x8:Tc,∃x9:Int,l=[(2,u3),(7,v2),(8,v1),(9,(I x3)),(10,v6),(11,v7),(12,(I x9))]∧Ctx [] w0 w [Item.rest v2 x2 (Int.toNat x9),Ad v7 x8,Ad v6 x7,Ad v1 x1]∧S.TrustedFacts_l2 x2 x7 k x8 x9=some r2) FUEL ⟨(.slice (some ⟨b3,0,none⟩) 0 0),([]:List Tb),0,z,hC44,hr5⟩<|?_
    clear hr5
    rintro k2 _ w7 ⟨v7,x8,x9,rfl,hC17,hL2⟩
    obtain _|k2:=k2<;>rw [S.TrustedFacts_l2] at hL2
    ·cases hL2
    refine A0<|Ac<|Ae z z<|Ae z z<|WL_len_rest hC17 0 z Ak z z<|AZ z z z<|Aa<|wc hL2 z (fun hL2=>?_) fun hL2=>?_
    ·refine A5<|Am<|A0<|A4<|be hL2 fun x11 hx2 hL2=>?_
     obtain ⟨b4,cs1,hE1,hC18⟩:=hC17.openRest hx2
     obtain ⟨v9,he1,hC19⟩:=st77_own (hC18.cellsOwn z)
     obtain rfl:=cells_of_agg he1
     refine Ac<|Ae z z<|Ae z z<|Ae z z<|Cz hC19 1 z Ak ty77 hE1 hx2 z z z<|Ct (fo:=0) (cs':=[(I x11.1),v9]) hC19 1 z hE1 z z z Bw Bb z z<|be hL2 fun x12 hr6 hL2=>cb CK z z (c_S_HasFact x7 v6 ((hC19.ro 3 z).now (Ay _ _)) (x11.1,x11.2) v9 ((hC19.ro 0 z).now (Ay _ _)) x12 hr6) fun w9 hB8=>have hC20:=hC19.grow hB8;Aa<|be hL2 fun r3 hr7 hL2=>wB (fun l w=>∃v10:Value,∃x13:Tc,x13=r3∧l=[(2,u3),(7,v2),(8,v1),(9,(I x3)),(10,v6),(11,v10),(12,(I x9))]∧Ctx [] w0 w [C0 v2 x2 (Int.toNat x9) [(I x11.1),v9],Ad v10 x13,Ad v6 x7,Ad v1 x1]) ?_ ?_
     ·refine wc hr7 z (fun hr7=>?_) fun hr7=>?_
      ·refine AL<|Ae z z<|Ae z z<|Ae z z<|Cz hC20 1 z Ak ty77 hE1 hx2 z z z<|Ct (fo:=0) (cs':=[(I x11.1),v9]) hC20 1 z hE1 z z z Bw Bb z z<|Ar (vs:=[(.agg #[(I x11.1),v9])]) hC20 Ak ty77 z z z z (fac z<|fa0) z z fun b5 w11 hC22 hB10=>?_
       have hC23:=hC22.row0 (α:=Tb)
       have hC25:=hC23.f2
       have hC24:=Cc x11.1 v9 x11.2 hC25
       have hC26:=hC24.row1
       have hC27:=hC26.front 1 z
       dsimp only [List.eraseIdx,List.cons_append,List.nil_append,List.append_nil] at hC27
       have hC28:Ctx [] w0 w11 (Ad (.slice (some ⟨b5,0,none⟩) 1 1) ([(x11.1,x11.2)]:List Tb)::[C0 v2 x2 (Int.toNat x9) [(I x11.1),v9],Ad v7 x8,Ad v6 x7,Ad v1 x1]):=hC27.rowOwn (by simp [maxLen])
       refine be hr7 fun x14 hx3 hr7=>Bf hC28 1 z Ak ty77 z hx3 z z z fun v11 w12 hC29=>?_
       try dsimp only [List.set] at hC29
       exact Af z z<|Aa<|nS<|⟨v11,x14,Ab hr7,z,hC29⟩
      refine A5 ?_
      have hC35:=hC20.f4.f4.f4.f4.h4
      exact nS<|⟨v7,x8,Ab hr7,z,hC35⟩
     rintro _ w10 ⟨v10,x13,rfl,rfl,hC21⟩
     refine AL<|Ae z z<|AW z z z<|Af z z<|Aa<|?_
     have hC36:=Ctx.rholeNext hx2 hC21
     exact nS<|⟨k2,Aw _,v10,x13,w64 (x9+1),z,hC36,hL2⟩
    refine Bi (A2 (A2 (AM ?_)))
    have hC39:=hC17.f3.f2.h2
    exact nS<|⟨v7,x8,Ab hL2,z,hC39⟩
   rintro _ w13 ⟨v8,x10,rfl,rfl,hC45⟩
   exact AL<|Ae z z<|Af z z<|Aa<|AN<|Am<|AL<|Ae z z<|AW z z z<|Af z z<|Aa<|have hC46:=hC45.f1;nS<|⟨k1,Aw _,v8,x10,w64 (x3+1),z,hC46,hL1⟩
  refine Bi (A2 (A2 (AM ?_)))
  have hC48:=hC6.f1.h1
  exact nS<|⟨v2,x2,Ab hL1,z,hC48⟩
 rintro _ w14 ⟨v3,x4,rfl,rfl,hC49⟩
 exact Ac<|Ae z z<|Af z z<|Aa<|AF<|rO hF z z hC49 0 z
theorem c_S_DoubtedFacts {w0:World} (a1:Ta) (u1:Value) (g1:RO [] w0 u1 a1) (a2:Tf) (u2:Value) (g2:RO [] w0 u2 a2) (a3:Tg) (u3:Value) (g3:RO [] w0 u3 a3) (rr:Tc) (hF:S.DoubtedFacts a1 a2 a3=some rr) :
 Calls Tryz.prog 17 [u1,u2,u3].toArray w0 fun e w'=>∃v,e=.returned v∧Res w0 rr v w':=by
 refine Av Tryz.func17 z z ?_
 have hC0:=A3 w0
 unfold S.DoubtedFacts at hF
 refine Ac<|Af z z<|Aa<|Ac<|Ar (vs:=[]) hC0 Ak ty77 z z z z (by simp) z z fun b1 w1 hC1 hB1=>?_
 have hC4:=hC1.rowE (α:=Tb)
 refine Af z z<|Aa<|Ac<|Ae z z<|Ae z z<|Ae z z<|be hF fun x1 hr1 hF=>AA Tryz.call16 z z (c_S_TrustedFacts a1 u1 (g1.now hC4.keep) a2 u2 (g2.now hC4.keep) a3 u3 (g3.now hC4.keep) x1 hr1)<|?_
 rintro v1 w2 ⟨hB2,F1,hv1,hn1,hb1⟩
 have hC5:=hC4.push hB2 (A:=Ad v1 x1) hv1 hn1 hb1
 refine Af z z<|Aa<|Ac<|Ae z z<|be hF fun x2 hr2 hF=>AA Dd z z (c_S_UnionOf a3 u3 (g3.now hC5.keep) x2 hr2)<|?_
 rintro v2 w3 ⟨hB3,F2,hv2,hn2,hb2⟩
 have hC6:=hC5.push hB3 (A:=Ad v2 x2) hv2 hn2 hb2
 refine Af z z<|Aa<|A0<|Ac<|Af z z<|Aa<|be hF fun r1 hr3 hF=>have hC7:=hC6.ownRest;wN (fun l w=>∃v4:Value,∃x5:Tc,x5=r1∧l=[(7,v4)]∧Ctx [] w0 w [Ad v4 x5]) ?_ ?_
 ·refine A4<|wT<|Bj (fun k l w=>∃v3:Value,∃x3:Tc,∃x4:Int,l=[(0,u1),(1,u2),(2,u3),(7,v3),(8,v1),(9,v2),(10,(I x4))]∧Ctx [] w0 w [Item.rest v2 x2 (Int.toNat x4),Ad v1 x1,Ad v3 x3]∧S.DoubtedFacts_l1 x2 a1 a2 a3 x1 k x3 x4=some r1) FUEL ⟨(.slice (some ⟨b1,0,none⟩) 0 0),([]:List Tb),0,z,hC7,hr3⟩<|?_
  clear hr3
  rintro k1 _ w4 ⟨v3,x3,x4,rfl,hC8,hL1⟩
  obtain _|k1:=k1<;>rw [S.DoubtedFacts_l1] at hL1
  ·cases hL1
  refine A0<|be hL1 fun r2 hr4 hL1=>B9 (fun l w=>∃x6:Bool,x6=r2∧l=[(0,u1),(1,u2),(2,u3),(7,v3),(8,v1),(9,v2),(10,(I x4)),(31,(.bool x6))]∧Below w4.heap.size w4 w∧Ctx [] w0 w [Item.rest v2 x2 (Int.toNat x4),Ad v1 x1,Ad v3 x3]) ?_ ?_
  ·refine AL<|Ae z z<|Ae z z<|WL_len_rest hC8 0 z Ak z z<|AZ z z z<|Ae z z<|wk hr4 (fun hr4=>?_) fun hr4=>?_
   ·refine Ai z z<|Ae z z<|Ai z z<|Ae z z<|be hr4 fun x7 hr5 hr4=>Ai z z<|cb CL z z (c_S_AreMethods a1 u1 (g1.now hC8.keep) a2 u2 (g2.now hC8.keep) x7 hr5) fun w6 hB6=>have hC10:=hC8.grow hB6;AJ z z z<|Ae z z<|wk hr4 (fun hr4=>?_) fun hr4=>?_
    ·exact Ai z z<|Ae z z<|Ai z z<|AH A8 g3 z z<|Ai z z<|Cv z z z<|AJ z z z<|Aa<|nS<|⟨(decide ((List.length a3:Int) ≤ 8)),Ab hr4,z,(Ao hB6).below,hC10⟩
    exact gs z z z z<|gs z z z z<|gs z z z z<|AK z z z<|Aa<|nS<|⟨false,Ab hr4,z,(Ao hB6).below,hC10⟩
   exact gs z z z z<|gs z z z z<|gs z z z z<|AK z z z<|Ae z z<|gs z z z z<|gs z z z z<|gs z z z z<|AK z z z<|Aa<|nS<|⟨false,Ab hr4,z,(Aj _ _),hC8⟩
  rintro _ w5 ⟨x6,rfl,rfl,hB5,hC9⟩
  refine wc hL1 z (fun hL1=>?_) fun hL1=>?_
  ·refine A5<|Am<|A0<|A4<|be hL1 fun x8 hx1 hL1=>?_
   obtain ⟨b2,cs1,hE1,hC11⟩:=hC9.openRest hx1
   obtain ⟨v5,he1,hC12⟩:=st77_own (hC11.cellsOwn z)
   obtain rfl:=cells_of_agg he1
   refine Ac<|Ae z z<|Ae z z<|Ae z z<|Cz hC12 1 z Ak ty77 hE1 hx1 z z z<|Ct (fo:=0) (cs':=[(I x8.1),v5]) hC12 1 z hE1 z z z Bw Bb z z<|be hL1 fun x9 hr6 hL1=>cb CK z z (c_S_HasFact x1 v1 ((hC12.ro 2 z).now (Ay _ _)) (x8.1,x8.2) v5 ((hC12.ro 0 z).now (Ay _ _)) x9 hr6) fun w7 hB7=>have hC13:=hC12.grow hB7;Bv z z<|Aa<|be hL1 fun r3 hr7 hL1=>wB (fun l w=>∃v6:Value,∃x10:Tc,x10=r3∧l=[(0,u1),(1,u2),(2,u3),(7,v6),(8,v1),(9,v2),(10,(I x4))]∧Ctx [] w0 w [C0 v2 x2 (Int.toNat x4) [(I x8.1),v5],Ad v1 x1,Ad v6 x10]) ?_ ?_
   ·refine wc hr7 z (fun hr7=>?_) fun hr7=>?_
    ·refine AL<|Ae z z<|Ae z z<|Ae z z<|Cz hC13 1 z Ak ty77 hE1 hx1 z z z<|Ct (fo:=0) (cs':=[(I x8.1),v5]) hC13 1 z hE1 z z z Bw Bb z z<|Ar (vs:=[(.agg #[(I x8.1),v5])]) hC13 Ak ty77 z z z z (fac z<|fa0) z z fun b3 w10 hC15 hB9=>?_
     have hC16:=hC15.row0 (α:=Tb)
     have hC18:=hC16.f2
     have hC17:=Cc x8.1 v5 x8.2 hC18
     have hC19:=hC17.row1
     have hC20:=hC19.front 1 z
     dsimp only [List.eraseIdx,List.cons_append,List.nil_append,List.append_nil] at hC20
     have hC21:Ctx [] w0 w10 (Ad (.slice (some ⟨b3,0,none⟩) 1 1) ([(x8.1,x8.2)]:List Tb)::[C0 v2 x2 (Int.toNat x4) [(I x8.1),v5],Ad v1 x1,Ad v3 x3]):=hC20.rowOwn (by simp [maxLen])
     refine be hr7 fun x11 hx2 hr7=>Bf hC21 2 z Ak ty77 z hx2 z z z fun v7 w11 hC22=>?_
     try dsimp only [List.set] at hC22
     exact Af z z<|Aa<|nS<|⟨v7,x11,Ab hr7,z,hC22⟩
    refine A5 ?_
    have hC27:=hC13.f3.f3.f3.h3
    exact nS<|⟨v3,x3,Ab hr7,z,hC27⟩
   rintro _ w9 ⟨v6,x10,rfl,rfl,hC14⟩
   refine AL<|Ae z z<|AW z z z<|Af z z<|Aa<|?_
   have hC28:=Ctx.rholeNext hx1 hC14
   exact nS<|⟨k1,Aw _,v6,x10,w64 (x4+1),z,hC28,hL1⟩
  refine Bi (A2 (A2 (AM ?_)))
  have hC30:=hC9.f2.h1
  exact nS<|⟨v3,x3,Ab hL1,z,hC30⟩
 rintro _ w12 ⟨v4,x5,rfl,rfl,hC31⟩
 exact Ac<|Ae z z<|Af z z<|Aa<|AF<|rO hF z z hC31 0 z
theorem c_Q_inside {w0:World} (a1:Tc) (u1:Value) (g1:RO [] w0 u1 a1) (a2:Tc) (u2:Value) (g2:RO [] w0 u2 a2) (rr:Bool) (hF:Q.inside a1 a2=some rr) :
 Calls Tryz.prog 22 [u1,u2].toArray w0 fun e w'=>∃v,e=.returned v∧Res w0 rr v w':=by
 refine Av Tryz.func22 z z ?_
 have hC0:=A3 w0
 unfold Q.inside at hF
 refine Ac<|Af z z<|Aa<|A0<|Ac<|Af z z<|Aa<|be hF fun r1 hr1 hF=>wN (fun l w=>.inl ()=r1∧l=[]∧Below w0.heap.size w0 w∧Ctx [] w0 w []) ?_ ?_
 ·refine A4<|wT<|Bj (fun k l w=>∃x1:Int,l=[(0,u1),(1,u2),(5,(I x1))]∧Below w0.heap.size w0 w∧Ctx [] w0 w []∧Q.inside_l1 a1 a2 k x1=some r1) FUEL ⟨0,z,(Aj _ _),hC0,hr1⟩<|?_
  clear hr1
  rintro k1 _ w1 ⟨x1,rfl,hB1,hC1,hL1⟩
  obtain _|k1:=k1<;>rw [Q.inside_l1] at hL1
  ·cases hL1
  refine A0<|Ac<|Ae z z<|Ae z z<|AH Ak g1 z z<|AZ z z z<|Aa<|wc hL1 z (fun hL1=>?_) fun hL1=>?_
  ·refine A5<|Am<|A0<|A4<|Ac<|Ae z z<|Ae z z<|Ae z z<|be hL1 fun x2 hx1 hL1=>A9 Ak ty77 g1 hx1 z z z fun b1 o1 h1=>AD ty77 h1 hC1.keep z z fun v1 h2=>?_
   obtain ⟨v2,rfl,h3⟩:=BE h2
   refine be hL1 fun x3 hr2 hL1=>cb CK z z (c_S_HasFact a2 u2 (g2.now hC1.keep) x2 v2 (h3.now hC1.keep) x3 hr2) fun w2 hB2=>have hC2:=hC1.grow hB2;Bv z z<|Aa<|wc hL1 z (fun hL1=>?_) fun hL1=>?_
   ·refine Ac<|Af z z<|Aa<|AF<|AT<|Ax<|Ax<|AT<|Ax<|Ax<|?_
    obtain rfl:=Ab hL1
    dsimp only at hF
    exact rB hF z z hC2
   exact A5<|AN<|Am<|AL<|Ae z z<|AW z z z<|Af z z<|Aa<|nS<|⟨k1,Aw _,w64 (x1+1),z,((Ao hB1).then hB2).below,hC2,hL1⟩
  refine Bi (A2 (A2 (AM ?_)))
  exact nS<|⟨Ab hL1,z,(Ao hB1).below,hC1⟩
 rintro _ w3 ⟨rfl,rfl,hB3,hC3⟩
 try dsimp only at hF
 exact Ac<|Af z z<|Aa<|AF<|rB hF z z hC3
theorem c_S_IsVar {w0:World} (a1:Int) (rr:Bool) (hF:S.IsVar a1=some rr) :
 Calls Tryz.prog 171 [(I a1)].toArray w0 fun e w'=>∃v,e=.returned v∧Res w0 rr v w':=by
 refine Av Tryz.func171 z z ?_
 have hC0:=A3 w0
 unfold S.IsVar at hF
 exact Ac<|Af z z<|Aa<|Ac<|Ae z z<|be hF fun x1 hr1 hF=>cb BH z z (c_S_l1In a1 10 17 x1 hr1) fun w1 hB1=>have hC1:=hC0.grow hB1;Af z z<|Aa<|AF<|rB hF z z hC1
theorem c_S_l3Put_own {w0:World} {Fs:List Tn} (a1:Ta) (u1:Value) (a2:Int) (hH:Hold [Ad u1 (a1:Ta)] w0 Fs) (hn:Fs.flatten.Nodup) (rr:Ta) (hF:S.l3Put a1 a2=some rr) :
 Calls Tryz.prog 172 [u1,(I a2)].toArray w0 fun e w'=>∃v,e=.returned v∧∃q0:Value,v=q0∧Ctx Fs.flatten w0 w' [Ad q0 (rr:Ta)]:=by
 refine Av Tryz.func172 z z ?_
 have hC0:=B7 hH hn
 unfold S.l3Put at hF
 refine Ac<|Af z z<|Aa<|A0<|Ac<|Ae z z<|Ae z z<|be hF fun x1 hr1 hF=>cb Tryz.call61 z z (c_S_l2Has a1 u1 ((hC0.ro 0 z).now (Ay _ _)) a2 x1 hr1) fun w1 hB1=>have hC1:=hC0.grow hB1;Aa<|wc hF z (fun hF=>?_) fun hF=>?_
 ·refine Ac<|Ae z z<|Af z z<|Aa<|AF<|Ax<|?_
  obtain rfl:=Ab hF
  exact BI z z<|⟨_,z,_,z,hC1⟩
 refine A5<|Am<|Ac<|Ar (vs:=[]) hC1 Ag ty3 z z z z (by simp) z z fun b1 w2 hC3 hB2=>?_
 have hC6:=hC3.rowE (α:=Int)
 refine Af z z<|Aa<|Ac<|Af z z<|Aa<|A0<|Ac<|Af z z<|Aa<|be hF fun r1 hr2 hF=>wN (fun l w=>∃v2:Value,∃x5:Ta,∃x6:Bool,(x5,x6)=r1∧l=[(1,(I a2)),(5,v2),(6,(.bool x6))]∧Ctx Fs.flatten w0 w [Ad v2 x5,Ad u1 (a1:Ta)]) ?_ ?_
 ·refine A4<|wT<|Bj (fun k l w=>∃v1:Value,∃x2:Ta,∃x3:Bool,∃x4:Int,l=[(0,u1),(1,(I a2)),(5,v1),(6,(.bool x3)),(7,(I x4))]∧Ctx Fs.flatten w0 w [Ad v1 x2,Ad u1 (a1:Ta)]∧S.l3Put_l1 a1 a2 k x2 x3 x4=some r1) FUEL ⟨(.slice (some ⟨b1,0,none⟩) 0 0),([]:List Int),false,0,z,hC6,hr2⟩<|?_
  clear hr2
  rintro k1 _ w3 ⟨v1,x2,x3,x4,rfl,hC7,hL1⟩
  obtain _|k1:=k1<;>rw [S.l3Put_l1] at hL1
  ·cases hL1
  refine A0<|Ac<|Ae z z<|Ae z z<|AH Ag (hC7.ro 1 z) z z<|AZ z z z<|Aa<|wc hL1 z (fun hL1=>?_) fun hL1=>?_
  ·refine A5<|Am<|A0<|A4<|A0<|be hL1 fun r2 hr3 hL1=>B9 (fun l w=>∃x7:Bool,x7=r2∧l=[(0,u1),(1,(I a2)),(5,v1),(6,(.bool x3)),(7,(I x4)),(28,(.bool x7))]∧Below w3.heap.size w3 w∧Ctx Fs.flatten w0 w [Ad v1 x2,Ad u1 (a1:Ta)]) ?_ ?_
   ·refine AL<|Ae z z<|Bv z z<|Ae z z<|wk hr3 (fun hr3=>?_) fun hr3=>?_
    ·refine Ai z z<|Ae z z<|Ai z z<|Ae z z<|be hr3 fun x8 hx1 hr3=>Ai z z<|A9 Ag ty3 (hC7.ro 1 z) hx1 z z z fun b2 o1 h1=>Ai z z<|AD ty3 h1 (Ay _ _) z z fun v3 h2=>?_
     obtain rfl:=Bo h2
     exact Ai z z<|Ae z z<|Ai z z<|Ck z z z<|AJ z z z<|Aa<|nS<|⟨(decide (a2 < x8)),Ab hr3,z,(Aj _ _),hC7⟩
    exact gs z z z z<|gs z z z z<|gs z z z z<|gs z z z z<|gs z z z z<|gs z z z z<|AK z z z<|Aa<|nS<|⟨false,Ab hr3,z,(Aj _ _),hC7⟩
   rintro _ w4 ⟨x7,rfl,rfl,hB4,hC8⟩
   refine be hL1 fun r3 hr4 hL1=>wN (fun l w=>∃v4:Value,∃x9:Ta,∃x10:Bool,(x9,x10)=r3∧l=[(0,u1),(1,(I a2)),(5,v4),(6,(.bool x10)),(7,(I x4))]∧Ctx Fs.flatten w0 w [Ad v4 x9,Ad u1 (a1:Ta)]) ?_ ?_
   ·refine wc hr4 z (fun hr4=>?_) fun hr4=>?_
    ·refine Ac<|Ae z z<|Ae z z<|Ar (vs:=[(I a2)]) hC8 Ag ty3 z z z z (fac z<|fa0) z z fun b3 w6 hC10 hB6=>?_
     have hC15:=hC10.row1i
     refine be hr4 fun x11 hx2 hr4=>AS (α:=Int) hC15 1 z (hC15.ro 0 z) (Ay _ _) Ag ty3 z hx2 z z z fun v5 w7 hC16=>?_
     try dsimp only [List.set] at hC16
     refine Af z z<|Aa<|AL<|Af z z<|Aa<|?_
     have hC19:=hC16.f2.f2.h2
     exact nS<|⟨v5,x11,true,Ab hr4,z,hC19⟩
    exact A5<|nS<|⟨v1,x2,x3,Ab hr4,z,hC8⟩
   rintro _ w5 ⟨v4,x9,x10,rfl,rfl,hC9⟩
   try dsimp only at hL1
   refine AL<|Ae z z<|Ae z z<|Ae z z<|be hL1 fun x12 hx3 hL1=>A9 Ag ty3 (hC9.ro 1 z) hx3 z z z fun b4 o2 h3=>AD ty3 h3 (Ay _ _) z z fun v6 h4=>?_
   obtain rfl:=Bo h4
   refine Ar (vs:=[(I x12)]) hC9 Ag ty3 z z z z (fac z<|fa0) z z (fun b5 w9 hC20 hB7=>?_)
   have hC25:=hC20.row1i
   refine be hL1 fun x13 hx4 hL1=>AS (α:=Int) hC25 1 z (hC25.ro 0 z) (Ay _ _) Ag ty3 z hx4 z z z fun v7 w10 hC26=>?_
   try dsimp only [List.set] at hC26
   exact Af z z<|Aa<|AN<|Am<|AL<|Ae z z<|AW z z z<|Af z z<|Aa<|have hC27:=hC26.f2;have hC28:=hC27.f2;have hC29:=hC28.h2;nS<|⟨k1,Aw _,v7,x13,x10,w64 (x4+1),z,hC29,hL1⟩
  refine Bi (A2 (A2 (AM ?_)))
  exact nS<|⟨v1,x2,x3,Ab hL1,z,hC7⟩
 rintro _ w11 ⟨v2,x5,x6,rfl,rfl,hC30⟩
 try dsimp only at hF
 refine A0<|Ac<|Ae z z<|Bv z z<|Aa<|be hF fun r4 hr5 hF=>wN (fun l w=>∃v8:Value,∃x14:Ta,x14=r4∧l=[(5,v8)]∧Ctx Fs.flatten w0 w [Ad v8 x14,Ad u1 (a1:Ta)]) ?_ ?_
 ·refine wc hr5 z (fun hr5=>?_) fun hr5=>?_
  ·refine AL<|Ae z z<|Ae z z<|Ar (vs:=[(I a2)]) hC30 Ag ty3 z z z z (fac z<|fa0) z z fun b6 w13 hC32 hB10=>?_
   have hC37:=hC32.row1i
   refine be hr5 fun x15 hx5 hr5=>AS (α:=Int) hC37 1 z (hC37.ro 0 z) (Ay _ _) Ag ty3 z hx5 z z z fun v9 w14 hC38=>?_
   try dsimp only [List.set] at hC38
   refine Af z z<|Aa<|?_
   have hC41:=hC38.f2.f2.h2
   exact nS<|⟨v9,x15,Ab hr5,z,hC41⟩
  exact A5<|nS<|⟨v2,x5,Ab hr5,z,hC30⟩
 rintro _ w12 ⟨v8,x14,rfl,rfl,hC31⟩
 refine Ac<|Ae z z<|Af z z<|Aa<|AF<|?_
 obtain rfl:=Ab hF
 exact BI z z<|have hC43:=hC31.h1;⟨_,z,_,z,hC43⟩
theorem c_S_VarsOf {w0:World} (a1:Tl) (u1:Value) (g1:RO [] w0 u1 a1.1) (u2:Value) (g2:RO [] w0 u2 a1.2) (rr:Ta) (hF:S.VarsOf a1=some rr) :
 Calls Tryz.prog 118 [(.agg #[u1,u2])].toArray w0 fun e w'=>∃v,e=.returned v∧Res w0 rr v w':=by
 refine Av Tryz.func118 z z ?_
 have hC0:=A3 w0
 unfold S.VarsOf at hF
 refine Ac<|Be (cs:=[u1,u2]) hC0 z z z fun b1 w1 hC1 hB1 hN1=>Af z z<|Aa<|Ac<|Ar (vs:=[]) hC1 Ag ty3 z z z z (by simp) z z fun b2 w2 hC2 hB2=>?_
 have hC5:=hC2.rowE (α:=Int)
 refine Af z z<|Aa<|A0<|Ac<|Af z z<|Aa<|be hF fun r1 hr1 hF=>wN (fun l w=>∃v2:Value,∃x3:Ta,x3=r1∧l=[(3,v2)]∧Ctx [] w0 w [Ad v2 x3]) ?_ ?_
 ·refine A4<|wT<|Bj (fun k l w=>∃v1:Value,∃x1:Ta,∃x2:Int,l=[(1,(ptr b1 0)),(3,v1),(4,(I x2))]∧Ctx [] w0 w [Ad v1 x1,Ah b1 [u1,u2]]∧S.VarsOf_l1 a1 k x1 x2=some r1) FUEL ⟨(.slice (some ⟨b2,0,none⟩) 0 0),([]:List Int),0,z,hC5,hr1⟩<|?_
  clear hr1
  rintro k1 _ w3 ⟨v1,x1,x2,rfl,hC6,hL1⟩
  obtain _|k1:=k1<;>rw [S.VarsOf_l1] at hL1
  ·cases hL1
  refine A0<|Ac<|Ae z z<|fd Bn BB z z z z<|Al hC6 1 z z BK z z<|AH By g2 z z<|AZ z z z<|Aa<|wc hL1 z (fun hL1=>?_) fun hL1=>?_
  ·refine A5<|Am<|A0<|A4<|Ac<|Af z z<|Aa<|be hL1 fun r2 hr2 hL1=>wB (fun l w=>∃v4:Value,∃x6:Ta,x6=r2∧l=[(1,(ptr b1 0)),(3,v4),(4,(I x2))]∧Ctx [] w0 w [Ad v4 x6,Ah b1 [u1,u2]]) ?_ ?_
   ·refine A4<|wT<|Bj (fun k l w=>∃v3:Value,∃x4:Ta,∃x5:Int,l=[(1,(ptr b1 0)),(3,v3),(4,(I x2)),(5,(I x5))]∧Ctx [] w0 w [Ad v3 x4,Ah b1 [u1,u2]]∧S.VarsOf_l2 a1 x2 k x4 x5=some r2) FUEL ⟨v1,x1,0,z,hC6,hr2⟩<|?_
    clear hr2
    rintro k2 _ w4 ⟨v3,x4,x5,rfl,hC7,hL2⟩
    obtain _|k2:=k2<;>rw [S.VarsOf_l2] at hL2
    ·cases hL2
    refine A0<|Ac<|Ae z z<|fd Bn BB z z z z<|Al hC7 1 z z BK z z<|Ae z z<|be hL2 fun x7 hx1 hL2=>A9 By ty93 g2 hx1 z z z fun b3 o1 h1=>fd AY Aq z z z z<|AD ty24 h1.snd hC7.keep z z fun v5 h2=>AH Ag h2 z z<|AZ z z z<|Aa<|wc hL2 z (fun hL2=>?_) fun hL2=>?_
    ·refine A5<|Am<|A0<|A4<|Ac<|fd Bn BB z z z z<|Al hC7 1 z z BK z z<|Ae z z<|be hL2 fun x8 hx2 hL2=>A9 By ty93 g2 hx2 z z z fun b4 o2 h3=>fd AY Aq z z z z<|AD ty24 h3.snd hC7.keep z z fun v6 h4=>Ae z z<|be hL2 fun x9 hx3 hL2=>A9 Ag ty3 h4 hx3 z z z fun b5 o3 h5=>AD ty3 h5 hC7.keep z z fun v7 h6=>?_
     obtain rfl:=Bo h6
     refine be hL2 fun x10 hr3 hL2=>cb CU z z (c_S_IsVar x9 x10 hr3) fun w5 hB5=>have hC8:=hC7.grow hB5;Aa<|be hL2 fun r3 hr4 hL2=>wB (fun l w=>∃v8:Value,∃x11:Ta,x11=r3∧l=[(1,(ptr b1 0)),(3,v8),(4,(I x2)),(5,(I x5))]∧Ctx [] w0 w [Ad v8 x11,Ah b1 [u1,u2]]) ?_ ?_
     ·refine wc hr4 z (fun hr4=>?_) fun hr4=>?_
      ·refine AL<|Ae z z<|fd Bn BB z z z z<|Al hC8 1 z z BK z z<|Ae z z<|be hr4 fun x12 hx4 hr4=>A9 By ty93 g2 hx4 z z z fun b6 o4 h7=>fd AY Aq z z z z<|AD ty24 h7.snd hC8.keep z z fun v9 h8=>Ae z z<|be hr4 fun x13 hx5 hr4=>A9 Ag ty3 h8 hx5 z z z fun b7 o5 h9=>AD ty3 h9 hC8.keep z z fun v10 h10=>?_
       obtain rfl:=Bo h10
       obtain ⟨x14,hr5,hr4⟩:=bind_some hr4
       obtain ⟨Fs1,hH1,hn1,hF1,hO1,hb1⟩:=hC8.lA
       refine AA Tryz.call172 z z (c_S_l3Put_own x4 v3 x13 hH1 hn1 x14 hr5) ?_
       rintro v11 w7 ⟨_,rfl,hq1⟩
       have hC11:=hb1 _ _ hq1
       exact Af z z<|Aa<|nS<|⟨v11,x14,Ab hr4,z,hC11⟩
      exact A5<|nS<|⟨v3,x4,Ab hr4,z,hC8⟩
     rintro _ w6 ⟨v8,x11,rfl,rfl,hC9⟩
     exact AL<|Ae z z<|AW z z z<|Af z z<|Aa<|nS<|⟨k2,Aw _,v8,x11,w64 (x5+1),z,hC9,hL2⟩
    refine Bi (A2 (A2 (AM ?_)))
    exact nS<|⟨v3,x4,Ab hL2,z,hC7⟩
   rintro _ w9 ⟨v4,x6,rfl,rfl,hC12⟩
   exact AL<|Ae z z<|AW z z z<|Af z z<|Aa<|nS<|⟨k1,Aw _,v4,x6,w64 (x2+1),z,hC12,hL1⟩
  refine Bi (A2 (A2 (AM ?_)))
  have hC13:=hC6.h1
  exact nS<|⟨v1,x1,Ab hL1,z,hC13⟩
 rintro _ w10 ⟨v2,x3,rfl,rfl,hC14⟩
 exact Ac<|Ae z z<|Af z z<|Aa<|AF<|rO hF z z hC14 0 z
theorem c_S_l3Query {w0:World} {Fs:List Tn} (pb1:Nat) (a1:Ti) (u1:Value) (g1:RO Fs.flatten w0 u1 a1.1) (a2:Ta) (u2:Value) (g2:RO Fs.flatten w0 u2 a2) (hH:Hold [Ah pb1 [u1,(I a1.2.1),(I a1.2.2)]] w0 Fs) (hn:Fs.flatten.Nodup) (rr:(Tl × Ti)) (hF:S.l3Query a1 a2=some rr) :
 Calls Tryz.prog 66 [(ptr pb1 0),u2].toArray w0 fun e w'=>∃v,e=.returned v∧∃q0:Value,v=q0∧Ctx Fs.flatten w0 w' [Ad q0 (rr.1:Tl),Ah pb1 [u1,(I rr.2.2.1),(I rr.2.2.2)]]:=by
 refine Av Tryz.func66 z z ?_
 have hC0:=B7 hH hn
 unfold S.l3Query at hF
 refine Ac<|Bq hC0 zero43 z z fun b1 w1 hC1 hB1 hN1=>Aa<|Ac<|B4 (vs:=[]) z z z built43<|Bq hC1 zero43 z z fun b2 w2 hC2 hB2 hN2=>AE (cs':=[(.slice none 0 0),(.slice none 0 0)]) (new:=[(.slice none 0 0),(.slice none 0 0)]) hC2 0 z z (fac z<|fac z<|fa0) z B0 z z fun w3 hC3 hKp1=>?_
 try dsimp only [List.set] at hC3
 have hk1:=AV ((Ao hB1).then hB2) (Bl (Ao hB1).size hN2) hKp1
 have hk2:=AV (Ao hB2) hN2 hKp1
 refine Aa<|A0<|Ac<|Ae z z<|be hF fun x1 hr1 hF=>have hC4:=hC3.f2;?_
 obtain ⟨Fs1,hH1,hn1,hF1,hO1,hb1⟩:=hC4.lA
 refine AA Bp z z (c_S_l1Below pb1 (a1.1,a1.2.1,a1.2.2) u1 (Bd g1 hC4.keep hF1) 3 hH1 hn1 x1 hr1) ?_
 rintro _ w4 ⟨rfl,hq1⟩
 have hC5:=hb1 _ _ hq1
 refine AW z z z<|Af z z<|Aa<|be hF fun r1 hr2 hF=>wN (fun l w=>∃x7:Int,∃x8:Int,∃v3:Value,∃x9:Ta,∃v4:Value,∃x10:Tc,(x7,x8,x9,x10)=r1∧l=[(0,(ptr pb1 0)),(4,(ptr b1 0)),(5,(ptr b2 0))]∧Ctx Fs.flatten w0 w [Ad v4 x10,Ad v3 x9,Ah pb1 [u1,(I x7),(I x8)],Ah b2 [v3,v4],Ah b1 [(.slice none 0 0),(.slice none 0 0)]]) ?_ ?_
 ·refine A4 ?_
  have hC51:=hC5.triv (nil_val (α:=Tb))
  have hC52:=hC51.triv (nil_val (α:=Int))
  have hC57:=hC52.f4.f4.f4.f3.f4
  refine wT<|Bj (fun k l w=>∃x2:Int,∃x3:Int,∃v1:Value,∃x4:Ta,∃v2:Value,∃x5:Tc,∃x6:Int,l=[(0,(ptr pb1 0)),(1,u2),(4,(ptr b1 0)),(5,(ptr b2 0)),(6,(I x6))]∧Ctx Fs.flatten w0 w [Ad v2 x5,Ad v1 x4,Ah pb1 [u1,(I x2),(I x3)],Ah b2 [v1,v2],Ah b1 [(.slice none 0 0),(.slice none 0 0)]]∧S.l3Query_l1 a1 a2 k x2 x3 x4 x5 x6=some r1) FUEL ⟨x1.2.2.1,x1.2.2.2,(.slice none 0 0),[],(.slice none 0 0),[],w64 (1+x1.1),z,hC57,hr2⟩<|?_
  clear hr2
  rintro k1 _ w5 ⟨x2,x3,v1,x4,v2,x5,x6,rfl,hC6,hL1⟩
  obtain _|k1:=k1<;>rw [S.l3Query_l1] at hL1
  ·cases hL1
  refine A0<|Ac<|Ae z z<|Ck z z z<|Aa<|wc hL1 z (fun hL1=>?_) fun hL1=>?_
  ·refine A5<|Am<|A0<|A4<|Ac<|Ae z z<|Ae z z<|AH Ag g2 z z<|be hL1 fun x11 hr3 hL1=>have hC7:=hC6.f2;?_
   obtain ⟨Fs2,hH2,hn2,hF2,hO2,hb2⟩:=hC7.lA
   refine AA Bp z z (c_S_l1Below pb1 (a1.1,x2,x3) u1 (Bd g1 hC7.keep hF2) (List.length a2:Int) hH2 hn2 x11 hr3) ?_
   rintro _ w6 ⟨rfl,hq2⟩
   have hC8:=hb2 _ _ hq2
   refine B4 (vs:=[(0,(I x11.1))]) z z z (built93_0 z)<|Bq hC8 zero93 z z fun b3 w7 hC9 hB4 hN3=>AE (cs':=[(I x11.1),(.slice none 0 0)]) (new:=[(I x11.1),(.slice none 0 0)]) hC9 0 z z (fac z<|fac z<|fa0) z Cl z z fun w9 hC10 hKp2=>?_
   try dsimp only [List.set] at hC10
   have hk3:=AV (Ao hB4) hN3 hKp2
   refine Aa<|A0<|Ac<|Af z z<|Aa<|be hL1 fun r2 hr4 hL1=>wN (fun l w=>∃x17:Int,∃v6:Value,∃x18:Ta,∃x19:Int,∃x20:Int,(x17,x18,x19,x20)=r2∧l=[(0,(ptr pb1 0)),(1,u2),(4,(ptr b1 0)),(5,(ptr b2 0)),(6,(I x6)),(7,(ptr b3 0))]∧Ctx Fs.flatten w0 w [Ad v6 x18,Ah b3 [(I x17),v6],Ah pb1 [u1,(I x19),(I x20)],Ad v2 x5,Ad v1 x4,Ah b2 [v1,v2],Ah b1 [(.slice none 0 0),(.slice none 0 0)]]) ?_ ?_
   ·refine A4 ?_
    have hC33:=hC10.triv (nil_val (α:=Int))
    refine wT<|Bj (fun k l w=>∃x12:Int,∃v5:Value,∃x13:Ta,∃x14:Int,∃x15:Int,∃x16:Int,l=[(0,(ptr pb1 0)),(1,u2),(4,(ptr b1 0)),(5,(ptr b2 0)),(6,(I x6)),(7,(ptr b3 0)),(8,(I x16))]∧Ctx Fs.flatten w0 w [Ad v5 x13,Ah b3 [(I x12),v5],Ah pb1 [u1,(I x14),(I x15)],Ad v2 x5,Ad v1 x4,Ah b2 [v1,v2],Ah b1 [(.slice none 0 0),(.slice none 0 0)]]∧S.l3Query_l2 a2 a1 k x12 x13 x14 x15 x16=some r2) FUEL ⟨x11.1,(.slice none 0 0),[],x11.2.2.1,x11.2.2.2,0,z,hC33,hr4⟩<|?_
    clear hr4
    rintro k2 _ w10 ⟨x12,v5,x13,x14,x15,x16,rfl,hC11,hL2⟩
    obtain _|k2:=k2<;>rw [S.l3Query_l2] at hL2
    ·cases hL2
    refine A0<|Ac<|Ae z z<|Ae z z<|fd AY A7 z z z z<|Al hC11 1 z z AU z z<|be hL2 fun x21 hx1 hL2=>A9 Ag ty3 g2 hx1 z z z fun b4 o1 h1=>AD ty3 h1 hC11.keep z z fun v7 h2=>?_
    obtain rfl:=Bo h2
    refine AZ z z z<|Aa<|wc hL2 z (fun hL2=>?_) fun hL2=>?_
    ·refine A5<|Am<|A0<|A4<|Ac<|Ae z z<|be hL2 fun x22 hr5 hL2=>have hC12:=hC11.f2;?_
     obtain ⟨Fs3,hH3,hn3,hF3,hO3,hb3⟩:=hC12.lA
     refine AA Bp z z (c_S_l1Below pb1 (a1.1,x14,x15) u1 (Bd g1 hC12.keep hF3) 4 hH3 hn3 x22 hr5) ?_
     rintro _ w11 ⟨rfl,hq3⟩
     have hC13:=hb3 _ _ hq3
     refine AW z z z<|Af z z<|Aa<|A0<|Ac<|Ae z z<|be hL2 fun x23 hr6 hL2=>?_
     obtain ⟨Fs4,hH4,hn4,hF4,hO4,hb4⟩:=hC13.lA
     refine AA Cp z z (c_S_l1Once pb1 (a1.1,x22.2.2.1,x22.2.2.2) u1 (Bd g1 hC13.keep hF4) 4 hH4 hn4 x23 hr6) ?_
     rintro _ w12 ⟨rfl,hq4⟩
     have hC14:=hb4 _ _ hq4
     refine Aa<|be hL2 fun r3 hr7 hL2=>wN (fun l w=>∃x24:Int,∃x25:Int,∃x26:Int,(x24,x25,x26)=r3∧l=[(0,(ptr pb1 0)),(1,u2),(4,(ptr b1 0)),(5,(ptr b2 0)),(6,(I x6)),(7,(ptr b3 0)),(8,(I x16)),(9,(I x26))]∧Ctx Fs.flatten w0 w [Ah pb1 [u1,(I x24),(I x25)],Ad v5 x13,Ah b3 [(I x12),v5],Ad v2 x5,Ad v1 x4,Ah b2 [v1,v2],Ah b1 [(.slice none 0 0),(.slice none 0 0)]]) ?_ ?_
     ·refine wc hr7 z (fun hr7=>?_) fun hr7=>?_
      ·refine AL<|Ae z z<|be hr7 fun x27 hr8 hr7=>?_
       obtain ⟨Fs5,hH5,hn5,hF5,hO5,hb5⟩:=hC14.lA
       refine AA Bp z z (c_S_l1Below pb1 (a1.1,x23.2.2.1,x23.2.2.2) u1 (Bd g1 hC14.keep hF5) 4 hH5 hn5 x27 hr8) ?_
       rintro _ w14 ⟨rfl,hq5⟩
       have hC16:=hb5 _ _ hq5
       exact Af z z<|Aa<|nS<|⟨x27.2.2.1,x27.2.2.2,x27.1,Ab hr7,z,hC16⟩
      exact A5<|nS<|⟨x23.2.2.1,x23.2.2.2,w64 (10+x22.1),Ab hr7,z,hC14⟩
     rintro _ w13 ⟨x24,x25,x26,rfl,rfl,hC15⟩
     try dsimp only at hL2
     refine AL<|fd AY Aq z z z z<|Al hC15 2 z z Au z z<|Ae z z<|Ar (vs:=[(I x26)]) hC15 Ag ty3 z z z z (fac z<|fa0) z z fun b5 w15 hC17 hB7=>?_
     have hC22:=hC17.row1i
     refine be hL2 fun x28 hx2 hL2=>AS (α:=Int) hC22 2 z (hC22.ro 0 z) (Ay _ _) Ag ty3 z hx2 z z z fun v8 w16 hC23=>?_
     try dsimp only [List.set] at hC23
     refine fd AY Aq z z z z<|B2 (cs':=[(I x12),v8]) hC23 3 z z (Br (hC23.ro 2 z)) z Aq z z fun w17 hC24 hKp3=>?_
     try dsimp only [List.set] at hC24
     exact Aa<|AN<|Am<|AL<|Ae z z<|AW z z z<|Af z z<|Aa<|have hC25:=hC24.f7;have hC26:=hC25.f7;have hC27:=hC26.f7;have hC28:=hC27.f7;have hC29:=hC28.f5;have hC30:=hC29.f7;have hC31:=hC30.f7;have hC32:=hC31.h7;nS<|⟨k2,Aw _,x12,v8,x28,x24,x25,w64 (x16+1),z,hC32,hL2⟩
    refine Bi (A2 (A2 (AM ?_)))
    exact nS<|⟨x12,v5,x13,x14,x15,Ab hL2,z,hC11⟩
   rintro _ w18 ⟨x17,v6,x18,x19,x20,rfl,rfl,hC34⟩
   try dsimp only at hL1
   refine AL<|fd Bn BB z z z z<|Al hC34 5 z z BK z z<|Az [(I x17),v6] hC34 1 z z z CH Cl z z<|Ar (vs:=[(.agg #[(I x17),v6])]) hC34 By ty93 z z z z (fac z<|fa0) z z fun b6 w19 hC35 hB9=>?_
   have hC36:=hC35.row0 (α:=Tb)
   have hC38:=hC36.f2
   have hC37:=own_st93 x17 v6 x18 hC38
   have hC39:=hC37.row1
   have hC40:=hC39.front 1 z
   dsimp only [List.eraseIdx,List.cons_append,List.nil_append,List.append_nil] at hC40
   have hC41:Ctx Fs.flatten w0 w19 (Ad (.slice (some ⟨b6,0,none⟩) 1 1) ([(x17,x18)]:List Tb)::[Ah b3 [(I x17),v6],Ah pb1 [u1,(I x19),(I x20)],Ad v2 x5,Ad v1 x4,Ah b2 [v1,v2],Ah b1 [(.slice none 0 0),(.slice none 0 0)]]):=hC40.rowOwn (by simp [maxLen])
   refine be hL1 fun x29 hx3 hL1=>Bf hC41 2 z By ty93 z hx3 z z z fun v9 w20 hC42=>?_
   try dsimp only [List.set] at hC42
   refine fd Bn BB z z z z<|B2 (cs':=[v1,v9]) hC42 4 z z (Br (hC42.ro 2 z)) z BB z z fun w21 hC44 hKp4=>?_
   try dsimp only [List.set] at hC44
   exact Aa<|AN<|Am<|AL<|Ae z z<|Cb z z z<|Af z z<|Aa<|have hC45:=hC44.f5;have hC46:=hC45.f5;have hC47:=hC46.f3;have hC48:=hC47.f5;have hC49:=hC48.f5;have hC50:=hC49.h5;nS<|⟨k1,Aw _,x19,x20,v1,x4,v9,x29,w64 (x6 - 1),z,hC50,hL1⟩
  refine Bi (A2 (A2 (AM ?_)))
  exact nS<|⟨x2,x3,v1,x4,v2,x5,Ab hL1,z,hC6⟩
 rintro _ w22 ⟨x7,x8,v3,x9,v4,x10,rfl,rfl,hC58⟩
 try dsimp only at hF
 refine Ac<|Az [v3,v4] hC58 3 z z z BA B0 z z<|be hF fun x30 hr9 hF=>AA Tryz.call118 z z (c_S_VarsOf (x9,x10) v3 ((hC58.ro 1 z).now (Ay _ _)) v4 ((hC58.ro 0 z).now (Ay _ _)) x30 hr9)<|?_
 rintro v10 w23 ⟨hB11,F1,hv1,hn6,hb6⟩
 have hC59:=hC58.push hB11 (A:=Ad v10 x30) hv1 hn6 hb6
 refine Af z z<|Aa<|A0<|Ac<|Af z z<|Aa<|be hF fun r4 hr10 hF=>wN (fun l w=>∃x36:Int,∃x37:Int,∃v13:Value,∃x38:Ta,∃v14:Value,∃x39:Tc,(x36,x37,x38,x39)=r4∧l=[(4,(ptr b1 0)),(5,(ptr b2 0))]∧Ctx Fs.flatten w0 w [Ad v14 x39,Ad v13 x38,Ah pb1 [u1,(I x36),(I x37)],Ah b2 [v13,v14],Ah b1 [(.slice none 0 0),(.slice none 0 0)]]) ?_ ?_
 ·refine A4<|wT<|Bj (fun k l w=>∃x31:Int,∃x32:Int,∃v11:Value,∃x33:Ta,∃v12:Value,∃x34:Tc,∃x35:Int,l=[(0,(ptr pb1 0)),(4,(ptr b1 0)),(5,(ptr b2 0)),(10,v10),(11,(I x35))]∧Ctx Fs.flatten w0 w [Ad v10 x30,Ad v12 x34,Ad v11 x33,Ah pb1 [u1,(I x31),(I x32)],Ah b2 [v11,v12],Ah b1 [(.slice none 0 0),(.slice none 0 0)]]∧S.l3Query_l3 x30 a1 k x31 x32 x33 x34 x35=some r4) FUEL ⟨x7,x8,v3,x9,v4,x10,0,z,hC59,hr10⟩<|?_
  clear hr10
  rintro k3 _ w24 ⟨x31,x32,v11,x33,v12,x34,x35,rfl,hC60,hL3⟩
  obtain _|k3:=k3<;>rw [S.l3Query_l3] at hL3
  ·cases hL3
  refine A0<|be hL3 fun r5 hr11 hL3=>B9 (fun l w=>∃x40:Bool,x40=r5∧l=[(0,(ptr pb1 0)),(4,(ptr b1 0)),(5,(ptr b2 0)),(10,v10),(11,(I x35)),(64,(.bool x40))]∧Below w24.heap.size w24 w∧Ctx Fs.flatten w0 w [Ad v10 x30,Ad v12 x34,Ad v11 x33,Ah pb1 [u1,(I x31),(I x32)],Ah b2 [v11,v12],Ah b1 [(.slice none 0 0),(.slice none 0 0)]]) ?_ ?_
  ·refine AL<|Ae z z<|Ae z z<|AH Ag (hC60.ro 0 z) z z<|AZ z z z<|Ae z z<|wk hr11 (fun hr11=>?_) fun hr11=>?_
   ·exact Ai z z<|fd Bn Aq z z z z<|Ai z z<|Al hC60 4 z z Au z z<|Ai z z<|AH Ag (hC60.ro 2 z) z z<|Ai z z<|AZ z z z<|AJ z z z<|Aa<|nS<|⟨(decide ((List.length x33:Int) < 2)),Ab hr11,z,(Aj _ _),hC60⟩
   exact gs z z z z<|gs z z z z<|gs z z z z<|gs z z z z<|AK z z z<|Aa<|nS<|⟨false,Ab hr11,z,(Aj _ _),hC60⟩
  rintro _ w25 ⟨x40,rfl,rfl,hB13,hC61⟩
  refine wc hL3 z (fun hL3=>?_) fun hL3=>?_
  ·refine A5<|Am<|A0<|A4<|Ac<|Ae z z<|be hL3 fun x41 hr12 hL3=>have hC62:=hC61.f3;?_
   obtain ⟨Fs6,hH6,hn7,hF6,hO6,hb7⟩:=hC62.lA
   refine AA Cp z z (c_S_l1Once pb1 (a1.1,x31,x32) u1 (Bd g1 hC62.keep hF6) 2 hH6 hn7 x41 hr12) ?_
   rintro _ w26 ⟨rfl,hq12⟩
   have hC63:=hb7 _ _ hq12
   refine Aa<|be hL3 fun r6 hr13 hL3=>wB (fun l w=>∃v15:Value,∃x42:Ta,∃v16:Value,∃x43:Tc,(x42,x43)=r6∧l=[(0,(ptr pb1 0)),(4,(ptr b1 0)),(5,(ptr b2 0)),(10,v10),(11,(I x35))]∧Ctx Fs.flatten w0 w [Ah pb1 [u1,(I x41.2.2.1),(I x41.2.2.2)],Ad v10 x30,Ad v16 x43,Ad v15 x42,Ah b2 [v15,v16],Ah b1 [(.slice none 0 0),(.slice none 0 0)]]) ?_ ?_
   ·refine wc hr13 z (fun hr13=>?_) fun hr13=>?_
    ·refine W_drawn 10 z hmix fun w28 hB15=>have hC65:=hC63.grow hB15;tf 0 Bn Aq z z z z z<|tm 2 z z z<|tm 3 z z z<|be hr13 fun x44 hx4 hr13=>tk 4 z z (B5 Ag ty3 (hC65.ro 1 z) hx4 z z)<|A9 Ag ty3 (hC65.ro 1 z) hx4 z z z fun b7 o2 h3=>Aa<|wAS (l':=[(0,(ptr pb1 0)),(4,(ptr b1 0)),(5,(ptr b2 0)),(10,v10),(11,(I x35)),(64,(.bool x40)),(67,(ptr pb1 0)),(68,(.bool x41.1)),(69,(ptr b2 0)),(71,v10),(72,(I x35)),(73,(ptr b7 o2))]) ⟨z,z,z,z,z,z,z,z,z,z,z,z,A6⟩<|Bg [⟨1,[],fun vs=>AQ v11,[]⟩,⟨5,[],fun vs=>AQ (I x44),[]⟩,⟨6,[],fun vs=>BS ([x44]:Ta),[]⟩] [[],[],[5]] 3 z (by kernel_rfl) (by kernel_rfl) z ?_ ?_
     ·refine An z ?_ ?_
      ·intro w30 hB17
       refine At<|⟨_,z,?_⟩
       exact Al (hC65.grow hB17) 4 z z Au z z<|Aa<|A1 (Aj _ _) z z ⟨z,z⟩
      refine An z ?_ ?_
      ·intro w30 hB17
       refine At<|⟨_,z,?_⟩
       refine AD ty3 h3 (Ao hB17) z z (fun v17 h4=>?_)
       obtain rfl:=Bo h4
       exact Aa<|A1 (Aj _ _) z z ⟨z,z⟩
      refine An z ?_ ?_
      ·intro w30 hB17
       refine AG z z z ?_
       rintro _ _ ⟨rfl,rfl⟩ _
       refine At<|⟨_,z,?_⟩
       refine Ar (vs:=[(I x44)]) (A3 w30) Ag ty3 z z z z (fac z<|fa0) z z (fun b8 w29 hC66 hB16=>?_)
       have hC71:=hC66.row1i
       exact Aa<|Co hC71 z z (fun F h=>h)
      exact AX
     intro w31 hB18
     refine Ap z z z ?_
     rintro _ _ ⟨rfl,rfl⟩
     refine Ap z z z ?_
     rintro _ _ ⟨rfl,rfl⟩
     refine Ap z z z fun v18 F2 hv2=>Bm fun hn8 hb8=>?_
     have hC72:=hC65.pushL hB18 (Bs:=[Ad v18 ([x44]:Ta)]) (Fs:=[F2]) ⟨F2,_,z,hv2,z⟩ (by simpa using hn8) (fun b h=>(hb8 b (by simpa using h)).1)
     refine be hr13 fun x45 hx5 hr13=>oe 7 z<|AS (α:=Int) hC72 4 z (hC72.ro 0 z) (Ay _ _) Ag ty3 z hx5 z z z fun v19 w32 hC73=>?_
     try dsimp only [List.set] at hC73
     refine Aa<|tf 8 Bn Aq z z z z z<|oe 9 z<|B2 (cs':=[v19,v12]) hC73 5 z z (Br (hC73.ro 4 z)) z Aq z z fun w33 hC74 hKp5=>?_
     try dsimp only [List.set] at hC74
     refine Aa<|dn<|?_
     have hC81:=hC74.f6.f6.f6.f6.f6.f6.h6
     exact nS<|⟨v19,x45,v12,x34,Ab hr13,z,hC81⟩
    exact A5<|nS<|⟨v11,x33,v12,x34,Ab hr13,z,hC63⟩
   rintro _ w27 ⟨v15,x42,v16,x43,rfl,rfl,hC64⟩
   try dsimp only at hL3
   exact AL<|Ae z z<|AW z z z<|Af z z<|Aa<|have hC82:=hC64.f5;have hC83:=hC82.f5;have hC84:=hC83.f2;have hC85:=hC84.f5;have hC86:=hC85.f5;have hC87:=hC86.f5;nS<|⟨k3,Aw _,x41.2.2.1,x41.2.2.2,v15,x42,v16,x43,w64 (x35+1),z,hC87,hL3⟩
  refine Bi (A2 (A2 (AM ?_)))
  have hC93:=hC61.f5.f5.f5.f5.f5.h5
  exact nS<|⟨x31,x32,v11,x33,v12,x34,Ab hL3,z,hC93⟩
 rintro _ w34 ⟨x36,x37,v13,x38,v14,x39,rfl,rfl,hC94⟩
 try dsimp only at hF
 refine Ac<|Az [v13,v14] hC94 3 z z z BA B0 z z<|AE (cs':=[v13,v14]) (new:=[v13,v14]) hC94 4 z z (fac (Br (hC94.ro 1 z))<|fac (Br (hC94.ro 0 z))<|fa0) z B0 z z fun w35 hC95 hKp6=>?_
 try dsimp only [List.set] at hC95
 refine Aa (AF ?_)
 obtain rfl:=Ab hF
 refine BY z (rv_cell_agg (cs':=[v13,v14]) hC95 (i:=4) z z z BA B0 z)<|have hC96:=hC95.f2;have hC98:=hC96.f1;have hC99:=hC98.f2;?_
 have hC97:=own_st43 v13 x38 v14 x39 hC99
 have hC100:=hC97.h2
 exact ⟨_,z,_,z,hC100⟩
theorem c_S_DrawTrustedAnswers {w0:World} (a1:Tm) (u1:Value) (g1:RO [] w0 u1 a1) (rr:(Ta × Tf × Tl × Tg)) (hF:S.DrawTrustedAnswers a1=some rr) :
 Calls Tryz.prog 24 [u1].toArray w0 fun e w'=>∃v,e=.returned v∧∃q0:Value,∃q1:Value,∃q2:Value,∃q3:Value,v=(.tuple #[q0,q1,q2,q3])∧Ctx [] w0 w' [Ad q0 (rr.1:Ta),Ad q1 (rr.2.1:Tf),Ad q2 (rr.2.2.1:Tl),Ad q3 (rr.2.2.2:Tg)]:=by
 refine Av Tryz.func24 z z ?_
 have hC0:=A3 w0
 unfold S.DrawTrustedAnswers at hF
 refine Ac<|Af z z<|Af z z<|Bq hC0 zero43 z z fun b1 w1 hC1 hB1 hN1=>Af z z<|Aa<|Ac<|Ae z z<|be hF fun x1 hr1 hF=>AA Tryz.call63 z z (c_S_l1New a1 u1 (g1.now hC1.keep) x1 hr1)<|?_
 rintro _ w2 ⟨b2,rfl,hq1⟩
 have hC2:Ctx [] w0 w2 [Ah b2 [u1,(I x1.2.1),(I x1.2.2)],Ah b1 [(.slice none 0 0),(.slice none 0 0)]]:=hC1.push2 hq1
 refine Af z z<|Aa<|Ac<|Ae z z<|be hF fun x2 hr2 hF=>?_
 obtain ⟨Fs2,hH2,hn2,hF2,hO2,hb2⟩:=Dh (As:=[Ah b1 [(.slice none 0 0),(.slice none 0 0)]]) [Ah b2 [u1,(I x1.2.1),(I x1.2.2)]] hC2
 refine AA Tryz.call64 z z (c_S_l28List b2 (a1,x1.2.1,x1.2.2) u1 (Bd g1 hC2.keep hF2) hH2 hn2 x2 hr2) ?_
 rintro _ w3 ⟨v1,v2,v3,v4,rfl,hq2⟩
 have hC3:Ctx [] w0 w3 [Ad v1 x2.1,Ad v2 x2.2.1,Ad v3 x2.2.2.1,Ad v4 x2.2.2.2.1,Ah b2 [u1,(I x2.2.2.2.2.2.1),(I x2.2.2.2.2.2.2)],Ah b1 [(.slice none 0 0),(.slice none 0 0)]]:=hb2 _ _ hq2
 refine Ae z z<|Bk z z z<|Bk z z z<|Bk z z z<|Bk z z z<|Af z z<|Af z z<|Af z z<|Af z z<|Aa<|Ac<|Ar (vs:=[(I 10)]) hC3 Ag ty3 z z z z (fac z<|fa0) z z fun b3 w4 hC4 hB2=>?_
 have hC9:=hC4.row1i
 refine B4 (vs:=[(1,(.slice (some ⟨b3,0,none⟩) 1 1))]) z z z (built93_1 (ro_cells (hC9.ro 0 z)))<|Ar (vs:=[(.agg #[(I 0),(.slice (some ⟨b3,0,none⟩) 1 1)])]) hC9 By ty93 z z z z (fac z<|fa0) z z fun b4 w5 hC10 hB3=>?_
 have hC11:=hC10.row0 (α:=Tb)
 have hC13:=hC11.f2
 have hC12:=own_st93 0 (.slice (some ⟨b3,0,none⟩) 1 1) ([10]) hC13
 have hC14:=hC12.row1
 have hC15:=hC14.front 1 z
 dsimp only [List.eraseIdx,List.cons_append,List.nil_append,List.append_nil] at hC15
 have hC16:Ctx [] w0 w5 (Ad (.slice (some ⟨b4,0,none⟩) 1 1) ([(0,[10])]:List Tb)::[Ad v1 x2.1,Ad v2 x2.2.1,Ad v3 x2.2.2.1,Ad v4 x2.2.2.2.1,Ah b2 [u1,(I x2.2.2.2.2.2.1),(I x2.2.2.2.2.2.2)],Ah b1 [(.slice none 0 0),(.slice none 0 0)]]):=hC15.rowOwn (by simp [maxLen])
 refine B4 (vs:=[(1,(.slice (some ⟨b4,0,none⟩) 1 1))]) z z z (built43_1 (ro_cells (hC16.ro 0 z)))<|Bq hC16 zero43 z z fun b5 w6 hC17 hB4 hN2=>AE (cs':=[(.slice none 0 0),(.slice (some ⟨b4,0,none⟩) 1 1)]) (new:=[(.slice none 0 0),(.slice (some ⟨b4,0,none⟩) 1 1)]) hC17 0 z z (fac z<|fac (Br (hC17.ro 1 z))<|fa0) z B0 z z fun w7 hC18 hKp1=>?_
 try dsimp only [List.set] at hC18
 have hk1:=AV (((Ao hB2).then hB3).then hB4) (Bl ((Ao hB2).then hB3).size hN2) hKp1
 have hk2:=AV ((Ao hB3).then hB4) (Bl (Ao hB3).size hN2) hKp1
 have hk3:=AV (Ao hB4) hN2 hKp1
 refine Aa<|A0<|Ac<|Ae z z<|be hF fun x3 hr3 hF=>cb Cf z z (c_S_IsSchema x2.1 v1 ((hC18.ro 2 z).now (Ay _ _)) x3 hr3) fun w9 hB5=>have hC19:=hC18.grow hB5;Aa<|be hF fun r1 hr4 hF=>wN (fun l w=>∃v5:Value,∃x4:Ta,∃v6:Value,∃x5:Tc,∃x6:Int,∃x7:Int,(x4,x5,x6,x7)=r1∧l=[(4,(ptr b1 0)),(7,v1),(8,v2),(10,v4),(11,(ptr b5 0))]∧Ctx [] w0 w [Ad v5 x4,Ah b5 [v5,v6],Ad v6 x5,Ad v1 x2.1,Ad v2 x2.2.1,Ad v4 x2.2.2.2.1,Ah b1 [(.slice none 0 0),(.slice none 0 0)]]) ?_ ?_
 ·refine wc hr4 z (fun hr4=>?_) fun hr4=>?_
  ·refine AL<|Ae z z<|Ae z z<|be hr4 fun x8 hr5 hr4=>have hC21:=hC19.f6;?_
   obtain ⟨Fs3,hH3,hn3,hF3,hO3,hb3⟩:=hC21.lB
   refine AA Tryz.call66 z z (c_S_l3Query b2 (a1,x2.2.2.2.2.2.1,x2.2.2.2.2.2.2) u1 (Bd g1 hC21.keep hF3) x2.1 v1 (hO3 2 _ _ _ z) hH3 hn3 x8 hr5) ?_
   rintro v7 w11 ⟨_,rfl,hq3⟩
   have hC22:=hb3 _ _ _ hq3
   obtain ⟨v8,v9,rfl,hC23⟩:=st43_own hC22
   refine AE (cs':=[v8,v9]) (new:=[v8,v9]) hC23 3 z z (fac (Br (hC23.ro 0 z))<|fac (Br (hC23.ro 1 z))<|fa0) z B0 z z (fun w12 hC24 hKp2=>?_)
   try dsimp only [List.set] at hC24
   refine Aa ?_
   have hC32:=hC24.f9.f9.f8.f8.f5.f7.f6.h7
   exact nS<|⟨v8,x8.1.1,v9,x8.1.2,x8.2.2.1,x8.2.2.2,Ab hr4,z,hC32⟩
  refine A5 ?_
  have hC33:=hC19.triv (nil_val (α:=Int))
  have hC41:=hC33.f8.f7.f6.f6.f6.f6.f6.h7
  exact nS<|⟨(.slice none 0 0),[],(.slice (some ⟨b4,0,none⟩) 1 1),[(0,[10])],x2.2.2.2.2.2.1,x2.2.2.2.2.2.2,Ab hr4,z,hC41⟩
 rintro _ w10 ⟨v5,x4,v6,x5,x6,x7,rfl,rfl,hC20⟩
 try dsimp only at hF
 refine A0<|W_drawn 8 z hmix fun w13 hB7=>have hC42:=hC20.grow hB7;tm 0 z z z<|tm 1 z z z<|tm 3 z z z<|ta 4 z z z<|ta 5 z z z<|oe 2 z<|Az [v5,v6] hC42 1 z z z BA B0 z z<|Aa<|oe 6 z<|AE (cs':=[v5,v6]) (new:=[v5,v6]) hC42 6 z z (fac (Br (hC42.ro 0 z))<|fac (Br (hC42.ro 2 z))<|fa0) z B0 z z fun w14 hC43 hKp3=>?_
 try dsimp only [List.set] at hC43
 refine Aa<|ta 7 z z z<|dn<|Am<|AF<|?_
 obtain rfl:=Ab hF
 refine fn_retG4 z (rv_tmp z) (rv_tmp z) (rv_cell_agg (cs':=[v5,v6]) hC43 (i:=6) z z z BA B0 z) (rv_tmp z)<|have hC44:=hC43.f5;have hC46:=hC44.f3;have hC47:=hC46.f2;?_
 have hC45:=own_st43 v5 x4 v6 x5 hC47
 have hC50:=hC45.f4.f4.h4
 exact ⟨_,z,_,_,_,_,z,hC50⟩
theorem c_M_IsVar {w0:World} (a1:Int) (rr:Bool) (hF:M.IsVar a1=some rr) :
 Calls Tryz.prog 209 [(I a1)].toArray w0 fun e w'=>∃v,e=.returned v∧Res w0 rr v w':=by
 refine Av Tryz.func209 z z ?_
 have hC0:=A3 w0
 unfold M.IsVar at hF
 exact Ac<|Af z z<|Aa<|Ac<|Ae z z<|be hF fun x1 hr1 hF=>cb BV z z (c_M_within a1 10 17 x1 hr1) fun w1 hB1=>have hC1:=hC0.grow hB1;Af z z<|Aa<|AF<|rB hF z z hC1
theorem c_M_IsTerm {w0:World} (a1:Int) (rr:Bool) (hF:M.IsTerm a1=some rr) :
 Calls Tryz.prog 207 [(I a1)].toArray w0 fun e w'=>∃v,e=.returned v∧Res w0 rr v w':=by
 refine Av Tryz.func207 z z ?_
 have hC0:=A3 w0
 unfold M.IsTerm at hF
 refine Ac<|Af z z<|Aa<|be hF fun r1 hr1 hF=>B9 (fun l w=>∃x1:Bool,x1=r1∧l=[(2,(.bool x1))]∧Below w0.heap.size w0 w∧Ctx [] w0 w []) ?_ ?_
 ·refine AL<|Ae z z<|be hr1 fun x2 hr2 hr1=>cb Tryz.call222 z z (c_M_isValue a1 x2 hr2) fun w2 hB2=>have hC2:=hC0.grow hB2;Ae z z<|wk hr1 (fun hr1=>?_) fun hr1=>?_
  ·exact gs z z z z<|gs z z z z<|AJ z z z<|Af z z<|Aa<|nS<|⟨true,Ab hr1,z,(Ao hB2).below,hC2⟩
  exact Ai z z<|Ae z z<|be hr1 fun x3 hr3 hr1=>Ai z z<|cb CV z z (c_M_IsVar a1 x3 hr3) fun w3 hB3=>have hC3:=hC2.grow hB3;AK z z z<|Af z z<|Aa<|nS<|⟨x3,Ab hr1,z,((Ao hB2).then hB3).below,hC3⟩
 rintro _ w1 ⟨x1,rfl,rfl,hB1,hC1⟩
 exact AF<|rB hF z z hC1
theorem c_M_areTerms_c1 {w0:World} (a1:Int) (rr:Bool) (hF:M.areTerms_c1 a1=some rr) :
 Calls Tryz.prog 206 [(I a1)].toArray w0 fun e w'=>∃v,e=.returned v∧Res w0 rr v w':=by
 refine Av Tryz.func206 z z ?_
 have hC0:=A3 w0
 unfold M.areTerms_c1 at hF
 exact Ac<|Af z z<|Aa<|Ac<|Ae z z<|be hF fun x1 hr1 hF=>cb Tryz.call207 z z (c_M_IsTerm a1 x1 hr1) fun w1 hB1=>have hC1:=hC0.grow hB1;Bv z z<|Af z z<|Aa<|AF<|rB hF z z hC1
theorem c_Slices_IndexFunc_Lint_int_M_areTerms_c1 {w0:World} (a1:Ta) (u1:Value) (g1:RO [] w0 u1 a1) (rr:Int) (hF:Slices.IndexFunc_Lint_int_M_areTerms_c1 a1=some rr) :
 Calls Tryz.prog 197 [u1,(.func (.func 206) #[] #[])].toArray w0 fun e w'=>∃v,e=.returned v∧Res w0 rr v w':=by
 refine Av CA z z ?_
 have hC0:=A3 w0
 unfold Slices.IndexFunc_Lint_int_M_areTerms_c1 at hF
 refine Ac<|Af z z<|Aa<|A0<|Ac<|Ae z z<|AH Ag g1 z z<|Ae z z<|Aa<|be hF fun r1 hr1 hF=>wN (fun l w=>.inl ()=r1∧l=[]∧Below w0.heap.size w0 w∧Ctx [] w0 w []) ?_ ?_
 ·refine A4<|wT<|Bj (fun k l w=>∃x1:Int,l=[(0,u1),(1,(.func (.func 206) #[] #[])),(7,(I (List.length a1:Int))),(8,(I x1))]∧Below w0.heap.size w0 w∧Ctx [] w0 w []∧Slices.IndexFunc_Lint_int_M_areTerms_c1_l1 a1 k x1=some r1) FUEL ⟨0,z,(Aj _ _),hC0,hr1⟩<|?_
  clear hr1
  rintro k1 _ w1 ⟨x1,rfl,hB1,hC1,hL1⟩
  obtain _|k1:=k1<;>rw [Slices.IndexFunc_Lint_int_M_areTerms_c1_l1] at hL1
  ·cases hL1
  refine Ac<|AZ z z z<|Aa<|A0<|wc hL1 z (fun hL1=>?_) fun hL1=>?_
  ·refine A5<|Am<|A0<|A4<|Ac<|Ae z z<|Af z z<|Aa<|Ac<|Ae z z<|Ae z z<|Ae z z<|be hL1 fun x2 hx1 hL1=>A9 Ag ty3 g1 hx1 z z z fun b1 o1 h1=>AD ty3 h1 hC1.keep z z fun v1 h2=>?_
   obtain rfl:=Bo h2
   refine be hL1 fun x3 hr2 hL1=>BL (cap:=[]) Tryz.call206 z z z (c_M_areTerms_c1 x2 x3 hr2) fun _ w2 hv1=>?_
   obtain ⟨rfl,hB2⟩:=BM hv1
   have hC2:=hC1.grow hB2
   refine Aa<|wc hL1 z (fun hL1=>?_) fun hL1=>?_
   ·refine Ac<|Ae z z<|Af z z<|Aa<|AF<|AT<|Ax<|Ax<|AT<|Ax<|Ax<|?_
    obtain rfl:=Ab hL1
    dsimp only at hF
    exact rI hF z z hC2
   exact A5<|AN<|Am<|AL<|AW z z z<|Ae z z<|Aa<|nS<|⟨k1,Aw _,w64 (x1+1),z,((Ao hB1).then hB2).below,hC2,hL1⟩
  refine Bi (A2 (A2 (AM ?_)))
  exact nS<|⟨Ab hL1,z,(Ao hB1).below,hC1⟩
 rintro _ w3 ⟨rfl,rfl,hB3,hC3⟩
 try dsimp only at hF
 exact Ac<|Af z z<|Aa<|AF<|rI hF z z hC3
theorem c_Slices_ContainsFunc_Lint_int_M_areTerms_c1 {w0:World} (a1:Ta) (u1:Value) (g1:RO [] w0 u1 a1) (rr:Bool) (hF:Slices.ContainsFunc_Lint_int_M_areTerms_c1 a1=some rr) :
 Calls Tryz.prog 153 [u1,(.func (.func 206) #[] #[])].toArray w0 fun e w'=>∃v,e=.returned v∧Res w0 rr v w':=by
 refine Av CB z z ?_
 have hC0:=A3 w0
 unfold Slices.ContainsFunc_Lint_int_M_areTerms_c1 at hF
 exact Ac<|Af z z<|Aa<|Ac<|Ae z z<|Ae z z<|be hF fun x1 hr1 hF=>ci CC z z (c_Slices_IndexFunc_Lint_int_M_areTerms_c1 a1 u1 (g1.now hC0.keep) x1 hr1) fun w1 hB1=>have hC1:=hC0.grow hB1;Cr z z z<|Af z z<|Aa<|AF<|rB hF z z hC1
theorem c_M_areTerms {w0:World} (a1:Ta) (u1:Value) (g1:RO [] w0 u1 a1) (rr:Bool) (hF:M.areTerms a1=some rr) :
 Calls Tryz.prog 174 [u1].toArray w0 fun e w'=>∃v,e=.returned v∧Res w0 rr v w':=by
 refine Av Tryz.func174 z z ?_
 have hC0:=A3 w0
 unfold M.areTerms at hF
 exact Ac<|Af z z<|Aa<|Ac<|Ae z z<|be hF fun x1 hr1 hF=>cb CD z z (c_Slices_ContainsFunc_Lint_int_M_areTerms_c1 a1 u1 (g1.now hC0.keep) x1 hr1) fun w1 hB1=>have hC1:=hC0.grow hB1;Bv z z<|Af z z<|Aa<|AF<|rB hF z z hC1
theorem c_M_IsAtom {w0:World} (a1:Ta) (u1:Value) (g1:RO [] w0 u1 a1) (a2:Tb) (u2:Value) (g2:RO [] w0 u2 a2.2) (rr:Bool) (hF:M.IsAtom a1 a2=some rr) :
 Calls Tryz.prog 122 [u1,(.agg #[(I a2.1),u2])].toArray w0 fun e w'=>∃v,e=.returned v∧Res w0 rr v w':=by
 refine Av Tryz.func122 z z ?_
 have hC0:=A3 w0
 unfold M.IsAtom at hF
 refine Ac<|Be (cs:=[(I a2.1),u2]) hC0 z z z fun b1 w1 hC1 hB1 hN1=>Af z z<|Aa<|be hF fun r1 hr1 hF=>B9 (fun l w=>∃x1:Bool,x1=r1∧l=[(4,(.bool x1))]∧Below w1.heap.size w1 w∧Ctx [] w0 w []) ?_ ?_
 ·refine W_drawn 21 z hmix fun w3 hB3=>have hC3:=hC1.grow hB3;tm 0 z z z<|tf 1 AY A7 z z z z z<|oe 2 z<|Al hC3 0 z z AU z z<|Aa<|be hr1 fun x2 hr2 hr1=>oe 3 z<|cb Tryz.call156 z z (c_M_hasRel a1 u1 (g1.now hC3.keep) a2.1 x2 hr2) fun w4 hB4=>have hC4:=hC3.grow hB4;Aa<|tm 4 z z z<|BJ (fun hc1=>?_) (fun hc1=>?_)
  ·replace hr1:=Cm hr1 hc1
   refine tg 5 z z z z (BC AY z z (fun w=>⟨_,Aq w⟩) z)<|Ai z z<|fd AY Aq z z z z<|Aa<|tn 8 z z z z z<|tg 9 z z z z (BC AY z z (fun w=>⟨_,A7 w⟩) z)<|Ai z z<|fd AY A7 z z z z<|Aa<|be hr1 fun x3 hx1 hr1=>wAS (l':=[(0,u1),(1,(.agg #[(I a2.1),u2])),(3,(ptr b1 0)),(4,(.bool false)),(5,u1),(6,(ptr b1 0)),(7,(I a2.1)),(8,(.bool x2)),(9,(.bool true)),(10,(ptr b1 1)),(13,u1),(14,(ptr b1 0))]) ⟨z,z,z,z,z,z,z,z,z,z,z,z,A6⟩<|Bg [⟨6,[],fun vs=>AQ u2,[]⟩,⟨7,[],fun vs=>AQ (I (List.length a2.2:Int)),[]⟩,⟨10,[],fun vs=>AQ (I a2.1),[]⟩,⟨11,[],fun vs=>Cd [] w0 x3,[]⟩,⟨12,[],fun vs=>AQ (I x3),[]⟩] [[],[6],[],[10],[11]] 8 z (by kernel_rfl) (by kernel_rfl) z ?_ ?_
   ·refine An z ?_ ?_
    ·intro w5 hB5
     refine At<|⟨_,z,?_⟩
     exact Ai z z<|Al (hC4.grow hB5) 0 z z Au z z<|Aa<|A1 (Aj _ _) z z ⟨z,z⟩
    refine An z ?_ ?_
    ·intro w5 hB5
     refine AG z z z ?_
     rintro _ _ ⟨rfl,rfl⟩ _
     refine At<|⟨_,z,?_⟩
     exact Ai z z<|AH Ag g2 z z<|Aa<|A1 (Aj _ _) z z ⟨z,z⟩
    refine An z ?_ ?_
    ·intro w5 hB5
     refine At<|⟨_,z,?_⟩
     exact Ai z z<|Al (hC4.grow hB5) 0 z z AU z z<|Aa<|A1 (Aj _ _) z z ⟨z,z⟩
    refine An z ?_ ?_
    ·intro w5 hB5
     refine AG z z z ?_
     rintro _ _ ⟨rfl,rfl⟩ _
     refine At<|⟨_,z,?_⟩
     exact Ai z z<|A9 Ag ty3 g1 hx1 z z z fun b2 o1 h1=>Aa<|A1 (Aj _ _) z z ⟨z,_,_,z,h1⟩
    refine An z ?_ ?_
    ·intro w5 hB5
     refine AG z z z ?_
     rintro _ _ ⟨rfl,b2,o1,rfl,h1⟩ _
     refine At<|⟨_,z,?_⟩
     refine Ai z z<|AD ty3 h1 (hC4.keep.then hB5) z z fun v1 h2=>?_
     obtain rfl:=Bo h2
     exact Aa<|A1 (Aj _ _) z z ⟨z,z⟩
    exact AX
   intro w6 hB6
   refine Ap z z z ?_
   rintro _ _ ⟨rfl,rfl⟩
   refine Ap z z z ?_
   rintro _ _ ⟨rfl,rfl⟩
   refine Ap z z z ?_
   rintro _ _ ⟨rfl,rfl⟩
   refine Ap z z z ?_
   rintro _ _ ⟨rfl,b2,o1,rfl,h1⟩
   refine Ap z z z ?_
   rintro _ _ ⟨rfl,rfl⟩
   refine Bm fun hn1 hb1=>have hC5:=hC4.grow hB6;tg 13 z z z z (Dl z z)<|Ai z z<|BD z z z<|Aa<|tp 14 z z z z<|tm 15 z z z<|BJ (fun hc2=>?_) (fun hc2=>?_)
   ·replace hr1:=Cm hr1 hc2
    refine tg 16 z z z z (BC AY z z (fun w=>⟨_,Aq w⟩) z)<|Ai z z<|fd AY Aq z z z z<|Aa<|oe 17 z<|Ai z z<|Al hC5 0 z z Au z z<|Aa<|be hr1 fun x4 hr3 hr1=>oe 18 z<|Ai z z<|cb Tryz.call174 z z (c_M_areTerms a2.2 u2 (g2.now hC5.keep) x4 hr3) fun w7 hB7=>have hC6:=hC5.grow hB7;Aa<|tp 19 z z z z<|ta 20 z z z<|dn<|?_
    have hC7:=hC6.h0
    exact nS<|⟨x4,Ab hr1,z,((((Ao hB3).then hB4).then hB6).then hB7).below,hC7⟩
   replace hr1:=Cn hr1 hc2
   refine sk 16 z z z z z<|sk 17 z z z z z<|sk 18 z z z z z<|tq 19 z z z z<|ta 20 z z z<|dn<|?_
   have hC8:=hC5.h0
   exact nS<|⟨false,Ab hr1,z,(((Ao hB3).then hB4).then hB6).below,hC8⟩
  replace hr1:=Cn hr1 hc1
  refine sk 5 z z z z z<|sk 6 z z z z z<|sk 7 z z z z z<|sk 8 z z z z z<|sk 9 z z z z z<|sk 10 z z z z z<|sk 11 z z z z z<|sk 12 z z z z z<|sk 13 z z z z z<|tq 14 z z z z<|tm 15 z z z<|sk 16 z z z z z<|sk 17 z z z z z<|sk 18 z z z z z<|tq 19 z z z z<|ta 20 z z z<|dn<|?_
  have hC9:=hC4.h0
  exact nS<|⟨false,Ab hr1,z,((Ao hB3).then hB4).below,hC9⟩
 rintro _ w2 ⟨x1,rfl,rfl,hB2,hC2⟩
 exact AF<|rB hF z z hC2
theorem c_M_IsQuery_c1 {w0:World} (a1:Tb) (u1:Value) (g1:RO [] w0 u1 a1.2) (pb1:Nat) (ax1:Ta) (g2:ROAt [] w0 pb1 0 ax1) (rr:Bool) (hF:M.IsQuery_c1 a1 ax1=some rr) :
 Calls Tryz.prog 121 [(.agg #[(I a1.1),u1]),(ptr pb1 0)].toArray w0 fun e w'=>∃v,e=.returned v∧Res w0 rr v w':=by
 refine Av Tryz.func121 z z ?_
 have hC0:=A3 w0
 unfold M.IsQuery_c1 at hF
 exact Ac<|Be (cs:=[(I a1.1),u1]) hC0 z z z fun b1 w1 hC1 hB1 hN1=>Af z z<|Aa<|Ac<|AD ty24 g2 hC1.keep z z fun v1 h1=>Az [(I a1.1),u1] hC1 0 z z z CH Cl z z<|be hF fun x1 hr1 hF=>cb Tryz.call122 z z (c_M_IsAtom ax1 v1 (h1.now hC1.keep) (a1.1,a1.2) u1 (g1.now hC1.keep) x1 hr1) fun w2 hB2=>have hC2:=hC1.grow hB2;Bv z z<|Af z z<|Aa<|AF<|rB hF z z hC2
theorem c_Slices_Sort_Lint_int {Fs:List Tn} {w0:World} (a1:Ta) (u1:Value) (hH:Hold [Ad u1 (a1:Ta)] w0 Fs) (hn:Fs.flatten.Nodup) (rr:Ta) (hF:Slices.Sort_Lint_int a1=some rr) :
    Calls Tryz.prog 223 [u1].toArray w0 fun e w'=>∃v,e=.returned v∧v=(.tuple #[])∧Ctx Fs.flatten w0 w' [Ad u1 (rr:Ta)]:=sort_calls Tryz.lays189 a1 u1 hH hn rr hF
theorem c_Slices_Compact_Lint_int {Fs:List Tn} {w0:World} (a1:Ta) (u1:Value) (hH:Hold [Ad u1 (a1:Ta)] w0 Fs) (hn:Fs.flatten.Nodup) (rr:Ta) (hF:Slices.Compact_Lint_int a1=some rr) :
    Calls Tryz.prog 224 [u1].toArray w0 fun e w'=>∃v,e=.returned v∧∃q0:Value,v=q0∧Ctx Fs.flatten w0 w' [Ad q0 (rr:Ta)]:=compact_calls Tryz.laysNm220 a1 u1 hH hn rr hF
theorem c_M_termsOf_M_IsVar {w0:World} (a1:Tc) (u1:Value) (g1:RO [] w0 u1 a1) (rr:Ta) (hF:M.termsOf_M_IsVar a1=some rr) :
 Calls Tryz.prog 208 [u1,(.func (.func 209) #[] #[])].toArray w0 fun e w'=>∃v,e=.returned v∧Res w0 rr v w':=by
 refine Av Tryz.func208 z z ?_
 have hC0:=A3 w0
 unfold M.termsOf_M_IsVar at hF
 refine Ac<|Af z z<|Aa<|Ac<|Ar (vs:=[]) hC0 Ag ty3 z z z z (by simp) z z fun b1 w1 hC1 hB1=>?_
 have hC4:=hC1.rowE (α:=Int)
 refine Af z z<|Aa<|A0<|Ac<|Ae z z<|AH By g1 z z<|Ae z z<|Aa<|be hF fun r1 hr1 hF=>wN (fun l w=>∃v2:Value,∃x3:Ta,x3=r1∧l=[(5,v2)]∧Ctx [] w0 w [Ad v2 x3]) ?_ ?_
 ·refine A4<|wT<|Bj (fun k l w=>∃v1:Value,∃x1:Ta,∃x2:Int,l=[(1,(.func (.func 209) #[] #[])),(5,v1),(11,u1),(12,(I (List.length a1:Int))),(13,(I x2))]∧Ctx [] w0 w [Ad v1 x1]∧M.termsOf_M_IsVar_l1 a1 k x1 x2=some r1) FUEL ⟨(.slice (some ⟨b1,0,none⟩) 0 0),([]:List Int),0,z,hC4,hr1⟩<|?_
  clear hr1
  rintro k1 _ w2 ⟨v1,x1,x2,rfl,hC5,hL1⟩
  obtain _|k1:=k1<;>rw [M.termsOf_M_IsVar_l1] at hL1
  ·cases hL1
  refine Ac<|AZ z z z<|Aa<|A0<|wc hL1 z (fun hL1=>?_) fun hL1=>?_
  ·refine A5<|Am<|A0<|A4<|Ac<|be hL1 fun x4 hx1 hL1=>A9 By ty93 g1 hx1 z z z fun b2 o1 h1=>AD ty93 h1 hC5.keep z z fun v3 h2=>?_
   obtain ⟨v4,rfl,h3⟩:=ro_st93 h2
   refine Bq hC5 zero93 z z fun b3 w3 hC6 hB3 hN1=>AE (cs':=[(I x4.1),v4]) (new:=[(I x4.1),v4]) hC6 0 z z (fac z<|fac (Br h3)<|fa0) z Cl z z fun w4 hC7 hKp1=>?_
   try dsimp only [List.set] at hC7
   have hk1:=AV (Ao hB3) hN1 hKp1
   refine Aa<|Ac<|fd AY Aq z z z z<|Al hC7 0 z z Au z z<|AH Ag h3 z z<|Ae z z<|Aa<|be hL1 fun r2 hr2 hL1=>wB (fun l w=>∃v6:Value,∃x7:Ta,x7=r2∧l=[(1,(.func (.func 209) #[] #[])),(5,v6),(11,u1),(12,(I (List.length a1:Int))),(13,(I x2))]∧Ctx [] w0 w [Ad v6 x7]) ?_ ?_
   ·refine A4<|have hC20:=hC7.f1;have hC21:=hC20.h1;wT<|Bj (fun k l w=>∃v5:Value,∃x5:Ta,∃x6:Int,l=[(1,(.func (.func 209) #[] #[])),(5,v5),(11,u1),(12,(I (List.length a1:Int))),(13,(I x2)),(18,v4),(19,(I (List.length x4.2:Int))),(20,(I x6))]∧Ctx [] w0 w [Ad v5 x5]∧M.termsOf_M_IsVar_l2 x4 k x5 x6=some r2) FUEL ⟨v1,x1,0,z,hC21,hr2⟩<|?_
    clear hr2
    rintro k2 _ w5 ⟨v5,x5,x6,rfl,hC8,hL2⟩
    obtain _|k2:=k2<;>rw [M.termsOf_M_IsVar_l2] at hL2
    ·cases hL2
    refine Ac<|AZ z z z<|Aa<|A0<|wc hL2 z (fun hL2=>?_) fun hL2=>?_
    ·refine A5<|Am<|A0<|A4<|Ac<|be hL2 fun x8 hx2 hL2=>A9 Ag ty3 h3 hx2 z z z fun b4 o2 h4=>AD ty3 h4 hC8.keep z z fun v7 h5=>?_
     obtain rfl:=Bo h5
     refine Af z z<|Aa<|Ac<|Ae z z<|Ae z z<|be hL2 fun x9 hr3 hL2=>BL (cap:=[]) CV z z z (c_M_IsVar x8 x9 hr3) fun _ w6 hv1=>?_
     obtain ⟨rfl,hB5⟩:=BM hv1
     have hC9:=hC8.grow hB5
     refine Aa<|be hL2 fun r3 hr4 hL2=>wB (fun l w=>∃v8:Value,∃x10:Ta,x10=r3∧l=[(1,(.func (.func 209) #[] #[])),(5,v8),(11,u1),(12,(I (List.length a1:Int))),(13,(I x2)),(18,v4),(19,(I (List.length x4.2:Int))),(20,(I x6))]∧Ctx [] w0 w [Ad v8 x10]) ?_ ?_
     ·refine wc hr4 z (fun hr4=>?_) fun hr4=>?_
      ·refine AL<|Ae z z<|Ae z z<|Ar (vs:=[(I x8)]) hC9 Ag ty3 z z z z (fac z<|fa0) z z fun b5 w9 hC11 hB7=>?_
       have hC16:=hC11.row1i
       refine be hr4 fun x11 hx3 hr4=>AS (α:=Int) hC16 1 z (hC16.ro 0 z) (Ay _ _) Ag ty3 z hx3 z z z fun v9 w10 hC17=>?_
       try dsimp only [List.set] at hC17
       refine Af z z<|Aa<|?_
       have hC19:=hC17.f1.h1
       exact nS<|⟨v9,x11,Ab hr4,z,hC19⟩
      exact A5<|nS<|⟨v5,x5,Ab hr4,z,hC9⟩
     rintro _ w7 ⟨v8,x10,rfl,rfl,hC10⟩
     exact AL<|AW z z z<|Ae z z<|Aa<|nS<|⟨k2,Aw _,v8,x10,w64 (x6+1),z,hC10,hL2⟩
    refine Bi (A2 (A2 (AM ?_)))
    exact nS<|⟨v5,x5,Ab hL2,z,hC8⟩
   rintro _ w11 ⟨v6,x7,rfl,rfl,hC22⟩
   exact AL<|AW z z z<|Ae z z<|Aa<|nS<|⟨k1,Aw _,v6,x7,w64 (x2+1),z,hC22,hL1⟩
  refine Bi (A2 (A2 (AM ?_)))
  exact nS<|⟨v1,x1,Ab hL1,z,hC5⟩
 rintro _ w12 ⟨v2,x3,rfl,rfl,hC23⟩
 refine Ac<|Ae z z<|be hF fun x12 hr5 hF=>?_
 obtain ⟨Fs1,hH1,hn1,hF1,hO1,hb1⟩:=hC23.lA
 refine AA Tryz.call223 z z (c_Slices_Sort_Lint_int x3 v2 hH1 hn1 x12 hr5) ?_
 rintro _ w13 ⟨rfl,hq5⟩
 have hC25:=hb1 _ _ hq5
 refine Aa<|Ac<|Ae z z<|be hF fun x13 hr6 hF=>?_
 obtain ⟨Fs2,hH2,hn2,hF2,hO2,hb2⟩:=hC25.lA
 refine AA Tryz.call224 z z (c_Slices_Compact_Lint_int x12 v2 hH2 hn2 x13 hr6) ?_
 rintro v10 w14 ⟨_,rfl,hq6⟩
 have hC27:=hb2 _ _ hq6
 exact Af z z<|Aa<|AF<|rO hF z z hC27 0 z
theorem c_M_VarsOf {w0:World} (a1:Tl) (u1:Value) (g1:RO [] w0 u1 a1.1) (u2:Value) (g2:RO [] w0 u2 a1.2) (rr:Ta) (hF:M.VarsOf a1=some rr) :
 Calls Tryz.prog 175 [(.agg #[u1,u2])].toArray w0 fun e w'=>∃v,e=.returned v∧Res w0 rr v w':=by
 refine Av Tryz.func175 z z ?_
 have hC0:=A3 w0
 unfold M.VarsOf at hF
 refine Ac<|Be (cs:=[u1,u2]) hC0 z z z fun b1 w1 hC1 hB1 hN1=>Af z z<|Aa<|Ac<|fd Bn BB z z z z<|Al hC1 0 z z BK z z<|be hF fun x1 hr1 hF=>AA Tryz.call208 z z (c_M_termsOf_M_IsVar a1.2 u2 (g2.now hC1.keep) x1 hr1)<|?_
 rintro v1 w2 ⟨hB2,F1,hv1,hn1,hb1⟩
 have hC2:=hC1.push hB2 (A:=Ad v1 x1) hv1 hn1 hb1
 exact Af z z<|Aa<|AF<|rO hF z z hC2 0 z
theorem c_M_hasHead_c1 {w0:World} (a1:Int) (pb1:Nat) (ax1:Ta) (g1:ROAt [] w0 pb1 0 ax1) (rr:Bool) (hF:M.hasHead_c1 a1 ax1=some rr) :
 Calls Tryz.prog 176 [(I a1),(ptr pb1 0)].toArray w0 fun e w'=>∃v,e=.returned v∧Res w0 rr v w':=by
 refine Av Tryz.func176 z z ?_
 have hC0:=A3 w0
 unfold M.hasHead_c1 at hF
 exact Ac<|Af z z<|Aa<|Ac<|AD ty24 g1 hC0.keep z z fun v1 h1=>Ae z z<|be hF fun x1 hr1 hF=>cb Tryz.call57 z z (c_Slices_Contains_Lint_int ax1 v1 (h1.now hC0.keep) a1 x1 hr1) fun w1 hB1=>have hC1:=hC0.grow hB1;Bv z z<|Af z z<|Aa<|AF<|rB hF z z hC1
theorem c_Slices_IndexFunc_Lint_int_M_hasHead_c1 {w0:World} (a1:Ta) (u1:Value) (g1:RO [] w0 u1 a1) (pb1:Nat) (ax1:Ta) (g2:ROAt [] w0 pb1 0 ax1) (rr:Int) (hF:Slices.IndexFunc_Lint_int_M_hasHead_c1 a1 ax1=some rr) :
 Calls Tryz.prog 197 [u1,(.func (.func 176) #[] #[(ptr pb1 0)])].toArray w0 fun e w'=>∃v,e=.returned v∧Res w0 rr v w':=by
 refine Av CA z z ?_
 have hC0:=A3 w0
 unfold Slices.IndexFunc_Lint_int_M_hasHead_c1 at hF
 refine Ac<|Af z z<|Aa<|A0<|Ac<|Ae z z<|AH Ag g1 z z<|Ae z z<|Aa<|be hF fun r1 hr1 hF=>wN (fun l w=>.inl ()=r1∧l=[]∧Below w0.heap.size w0 w∧Ctx [] w0 w []) ?_ ?_
 ·refine A4<|wT<|Bj (fun k l w=>∃x1:Int,l=[(0,u1),(1,(.func (.func 176) #[] #[(ptr pb1 0)])),(7,(I (List.length a1:Int))),(8,(I x1))]∧Below w0.heap.size w0 w∧Ctx [] w0 w []∧Slices.IndexFunc_Lint_int_M_hasHead_c1_l1 a1 ax1 k x1=some r1) FUEL ⟨0,z,(Aj _ _),hC0,hr1⟩<|?_
  clear hr1
  rintro k1 _ w1 ⟨x1,rfl,hB1,hC1,hL1⟩
  obtain _|k1:=k1<;>rw [Slices.IndexFunc_Lint_int_M_hasHead_c1_l1] at hL1
  ·cases hL1
  refine Ac<|AZ z z z<|Aa<|A0<|wc hL1 z (fun hL1=>?_) fun hL1=>?_
  ·refine A5<|Am<|A0<|A4<|Ac<|Ae z z<|Af z z<|Aa<|Ac<|Ae z z<|Ae z z<|Ae z z<|be hL1 fun x2 hx1 hL1=>A9 Ag ty3 g1 hx1 z z z fun b1 o1 h1=>AD ty3 h1 hC1.keep z z fun v1 h2=>?_
   obtain rfl:=Bo h2
   refine be hL1 fun x3 hr2 hL1=>BL (cap:=[(ptr pb1 0)]) Tryz.call176 z z z (c_M_hasHead_c1 x2 pb1 ax1 (g2.now hC1.keep) x3 hr2) fun _ w2 hv1=>?_
   obtain ⟨rfl,hB2⟩:=BM hv1
   have hC2:=hC1.grow hB2
   refine Aa<|wc hL1 z (fun hL1=>?_) fun hL1=>?_
   ·refine Ac<|Ae z z<|Af z z<|Aa<|AF<|AT<|Ax<|Ax<|AT<|Ax<|Ax<|?_
    obtain rfl:=Ab hL1
    dsimp only at hF
    exact rI hF z z hC2
   exact A5<|AN<|Am<|AL<|AW z z z<|Ae z z<|Aa<|nS<|⟨k1,Aw _,w64 (x1+1),z,((Ao hB1).then hB2).below,hC2,hL1⟩
  refine Bi (A2 (A2 (AM ?_)))
  exact nS<|⟨Ab hL1,z,(Ao hB1).below,hC1⟩
 rintro _ w3 ⟨rfl,rfl,hB3,hC3⟩
 try dsimp only at hF
 exact Ac<|Af z z<|Aa<|AF<|rI hF z z hC3
theorem c_Slices_ContainsFunc_Lint_int_M_hasHead_c1 {w0:World} (a1:Ta) (u1:Value) (g1:RO [] w0 u1 a1) (pb1:Nat) (ax1:Ta) (g2:ROAt [] w0 pb1 0 ax1) (rr:Bool) (hF:Slices.ContainsFunc_Lint_int_M_hasHead_c1 a1 ax1=some rr) :
 Calls Tryz.prog 153 [u1,(.func (.func 176) #[] #[(ptr pb1 0)])].toArray w0 fun e w'=>∃v,e=.returned v∧Res w0 rr v w':=by
 refine Av CB z z ?_
 have hC0:=A3 w0
 unfold Slices.ContainsFunc_Lint_int_M_hasHead_c1 at hF
 exact Ac<|Af z z<|Aa<|Ac<|Ae z z<|Ae z z<|be hF fun x1 hr1 hF=>ci CC z z (c_Slices_IndexFunc_Lint_int_M_hasHead_c1 a1 u1 (g1.now hC0.keep) pb1 ax1 (g2.now hC0.keep) x1 hr1) fun w1 hB1=>have hC1:=hC0.grow hB1;Cr z z z<|Af z z<|Aa<|AF<|rB hF z z hC1
end Go.Gx.Px
