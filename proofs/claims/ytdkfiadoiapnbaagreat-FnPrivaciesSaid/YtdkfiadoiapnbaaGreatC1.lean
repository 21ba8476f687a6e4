/- The contracts of the Go functions against the pure functions, printed by program. Conditions: each says them. -/
import Derived.Test.YtdkfiadoiapnbaaGreatTy
import Derived.Test.YtdkfiadoiapnbaaGreatGxZn
import Derived.Test.YtdkfiadoiapnbaaGreatPure
set_option linter.unusedVariables false
set_option linter.unusedSimpArgs false
set_option maxRecDepth 100000
set_option maxHeartbeats 4000000
namespace Go.Gx.Px
open Go.Proofs Go.RowKit
namespace K9
abbrev I (x : Int) : Value := .int .i64 x
abbrev Aa:=@Option.some.inj
abbrev Ab:=@Item.own
abbrev Ac:=@WL_nil
abbrev Ad:=@W_seq_reg
abbrev Ae:=@WL_assign
abbrev Af:=@Item.box
abbrev Ag:=@WL_move
abbrev Ah:=@Tryz.underlying22
abbrev Ai:=@trivial
abbrev Aj:=@WL_guard
abbrev Ak:=@nrm_sub
abbrev Al:=@Below.refl
abbrev Am:=@nrm_normal
abbrev An:=@StepsE_cons
abbrev Ao:=@WL_load_box
abbrev Ap:=@Keep.of
abbrev Aq:=@Keep.refl
abbrev Ar:=@DepsE_nil
abbrev At:=@AllE_cons
abbrev Au:=@calls_of_W
abbrev Av:=@Nat.lt_succ_self
abbrev Aw:=@Tryz.sizeOf22
abbrev Ax:=@Tryz.underlying35
abbrev Ay:=@FinE_val
abbrev Az:=@nrm_ret
abbrev A0:=@Tryz.underlying37
abbrev A1:=@nrm_exit
abbrev A2:=@WL_buildSlice
abbrev A3:=@WL_load
abbrev A4:=@Tryz.sizeOf37
abbrev A5:=@Tryz.underlying39
abbrev A6:=@W_seq
abbrev A7:=@WL_call
abbrev A8:=@fn_ret1
abbrev A9:=@WL_load_box_agg
abbrev AA:=@Ctx.start
abbrev AB:=@Tryz.underlying84
abbrev AC:=@ite_t
abbrev AD:=@ite_f
abbrev AE:=@Tryz.sizeOf3
abbrev AF:=@WL_extract
abbrev AG:=@WL_index
abbrev AH:=@W_block
abbrev AI:=@W_cond
abbrev AJ:=@W_skip
abbrev AK:=@DepsE_cons
abbrev AL:=@nrm_sub'
abbrev AM:=@blk_normal
abbrev AN:=@Tryz.underlying71
abbrev AO:=@WL_store_box_aggK
abbrev AP:=@W_ret
abbrev AQ:=@Tryz.isAgg22
abbrev AR:=@bool_res
abbrev AS:=@WL_pick_f
abbrev AT:=@Tryz.isAgg37
abbrev AU:=@Tryz.sizeOf35
abbrev AV:=@WL_pick_t
abbrev AW:=@Ctx.lend2
abbrev AX:=@Tryz.underlying75
abbrev AY:=@Keep.over
abbrev AZ:=@WL_len
abbrev Ba:=@Tryz.isAgg35
abbrev Bb:=@W_reg
abbrev Bc:=@Tryz.underlying33
abbrev Bd:=@W_norm
abbrev Be:=@blk_exit
abbrev Bf:=@RO.lent
abbrev Bg:=@Nat.le_trans
abbrev Bh:=@PW.val
abbrev Bi:=@WL_append_flat
abbrev Bj:=@WL_add
abbrev Bk:=@blk_ret
abbrev Bl:=@Tryz.isAgg3
abbrev Bm:=@int_val
abbrev Bn:=@ro_int
abbrev Bo:=@WL_lss
abbrev Bp:=@StepsE_nil
abbrev Bq:=@fl_extract
abbrev Br:=@WL_fork
abbrev Bt:=@W_exit
abbrev Bu:=@W_loop
abbrev Bv:=@WL_boxK
abbrev Bw:=@WA_postsE
abbrev Bx:=@WL_not
abbrev By:=@WL_allocK
abbrev Bz:=@ro_one
abbrev B0:=@AllE_nil
abbrev B1:=@W_drawn
abbrev B2:=@Tryz.call104
abbrev B3:=@WL_store_boxK
abbrev B4:=@fl_index
abbrev B5:=@int_res
abbrev B6:=@Tryz.call59
abbrev B7:=@Tryz.call64
abbrev B8:=@Tryz.sizeOf71
abbrev B9:=@Tryz.call82
abbrev BA:=@W_cut
abbrev BB:=@Tryz.underlying121
abbrev BC:=@fl_field
abbrev BD:=@Ctx.startIn
abbrev BE:=@Tryz.call78
abbrev BF:=@Ctx.lend3
abbrev BG:=@Tryz.call154
abbrev BH:=@WL_callv
abbrev BI:=@Tryz.sizeOf75
abbrev BJ:=@res_bool
abbrev BK:=@bool_val
abbrev BL:=@WL_makeFunc
abbrev BM:=@WA_all2
abbrev BN:=@WL_sub
abbrev BO:=@Tryz.underlying107
abbrev BP:=@Tryz.underlying4
abbrev BQ:=@WA_fork
abbrev BR:=@Tryz.underlying55
abbrev BS:=@Item.hole
abbrev BT:=@WL_eql
abbrev BU:=@Tryz.isAgg71
abbrev BV:=@WL_index_own
abbrev BW:=@Tryz.call69
abbrev BX:=@bind_some
abbrev BY:=@Tryz.underlying3
abbrev BZ:=@WL_nilCheck
abbrev Ca:=@Tryz.sizeOf84
abbrev Cb:=@WL_store_elem
abbrev Cc:=@ro_st84
abbrev Cd:=@fn_ret2
abbrev Ce:=@Tryz.func99
abbrev Cf:=@Tryz.call99
abbrev Cg:=@Tryz.call105
abbrev Ch:=@fl_index_own
abbrev Ci:=@PW.at
abbrev Cj:=@ro_cells
abbrev Ck:=@WL_build
abbrev Cl:=@Tryz.call54
abbrev Cm:=@fl_not
abbrev Cn:=@nrm_subs
abbrev Co:=@own_res
abbrev Cp:=@ro_st37
abbrev Cq:=@WL_geq
abbrev Cr:=@Tryz.func71
abbrev Cs:=@Tryz.call71
abbrev Ct:=@PW.ro
abbrev Cu:=@Tryz.call111
abbrev Cv:=@own_st84
abbrev Cw:=@WL_load_hole
abbrev Cx:=@fl_nilCheck
abbrev Cy:=@WL_bool_neq
abbrev Cz:=@ro_st71
abbrev C0:=@Tryz.call132
abbrev C1:=@own_st37
abbrev C2:=@Tryz.call83
abbrev C3:=@fl_sub
abbrev C4:=@WL_neq
abbrev C5:=@own_st75
abbrev C6:=@Tryz.underlying5
abbrev C7:=@WL_leq
abbrev C8:=@WL_gtr
abbrev C9:=@Tryz.isAgg84
abbrev CA:=@Tryz.isAgg75
abbrev CB:=@WL_index_raw
abbrev CC:=@Tryz.call91
abbrev CD:=@Tryz.call53
abbrev CE:=@Tryz.call66
abbrev CF:=@WL_append_head
abbrev CG:=@Tryz.call77
abbrev CH:=@W_cond_t
abbrev CI:=@W_cond_f
abbrev CJ:=@fl_len
end K9
open K9
theorem c_S_l1In {w0:World} (a1:Int) (a2:Int) (a3:Int) (rr:Bool) (hF:S.l1In a1 a2 a3=some rr) :
 Calls Tryz.prog 82 [(I a1),(I a2),(I a3)].toArray w0 fun e w'=>∃v,e=.returned v∧Res w0 rr v w':=by
 refine Au Tryz.func82 z z ?_
 have hC0:=AA w0
 unfold S.l1In at hF
 refine Ad<|Ae z z<|Ac<|be hF fun r1 hr1 hF=>BA (fun l w=>∃x1:Bool,x1=r1∧l=[(6,(.bool x1))]∧Below w0.heap.size w0 w∧Ctx [] w0 w []) ?_ ?_
 ·refine Bb<|Ag z z<|Ag z z<|Cq z z z<|Ag z z<|Br (fun hc1=>?_) (fun hc1=>?_)
  ·replace hr1:=AC hr1 hc1
   refine Aj z z<|Ag z z<|Aj z z<|Ag z z<|Aj z z<|C7 z z z<|AV z z z<|Ae z z<|Ac<|?_
   obtain rfl:=Aa hr1
   exact Ak (l':=[(6,(.bool (decide (a1 ≤ a3))))]) ⟨z,Ai⟩<|⟨(decide (a1 ≤ a3)),z,z,(Al _ _),hC0⟩
  replace hr1:=AD hr1 hc1
  refine gs z z z z<|gs z z z z<|gs z z z z<|AS z z z<|Ae z z<|Ac<|?_
  obtain rfl:=Aa hr1
  exact Ak (l':=[(6,(.bool false))]) ⟨z,Ai⟩<|⟨false,z,z,(Al _ _),hC0⟩
 rintro _ w1 ⟨x1,rfl,rfl,hB1,hC1⟩
 try dsimp only at hF
 refine AP ?_
 obtain rfl:=Aa hF
 exact A8 z z<|⟨_,z,AR hC1 _⟩
theorem c_S_l2Has {w0:World} (a1:(List Int)) (u1:Value) (g1:RO [] w0 u1 a1) (a2:Int) (rr:Bool) (hF:S.l2Has a1 a2=some rr) :
 Calls Tryz.prog 54 [u1,(I a2)].toArray w0 fun e w'=>∃v,e=.returned v∧Res w0 rr v w':=by
 refine Au Tryz.func54 z z ?_
 have hC0:=AA w0
 unfold S.l2Has at hF
 refine Ad<|Ae z z<|Ac<|A6<|Ad<|Ae z z<|Ac<|be hF fun r1 hr1 hF=>Bd (fun l w=>.inl ()=r1∧l=[]∧Below w0.heap.size w0 w∧Ctx [] w0 w []) ?_ ?_
 ·refine AH<|wS (l':=[(0,u1),(1,(I a2)),(5,(I 0))]) ⟨z,z,z,Ai⟩<|Bu (fun k l w=>∃x1:Int,l=[(0,u1),(1,(I a2)),(5,(I x1))]∧Below w0.heap.size w0 w∧Ctx [] w0 w []∧S.l2Has_l1 a1 a2 k x1=some r1) FUEL ⟨0,z,(Al _ _),hC0,hr1⟩<|?_
  clear hr1
  rintro k1 _ w1 ⟨x1,rfl,hB1,hC1,hL1⟩
  cases k1 with
  | zero=>rw [S.l2Has_l1] at hL1; cases hL1
  | succ k1 =>
   rw [S.l2Has_l1] at hL1
   refine A6<|Ad<|Ag z z<|Ag z z<|AZ Ah g1 z z<|Bo z z z<|Ac<|AI z (fun hc1=>?_) (fun hc1=>?_)
   ·replace hL1:=AC hL1 hc1
    refine AJ<|Am<|A6<|AH<|Ad<|Ag z z<|Ag z z<|be hL1 fun x2 hx1 hL1=>AG Ah ty3 g1 hx1 z z z fun b1 o1 h1=>A3 ty3 h1 hC1.keep z z fun v1 h2=>?_
    obtain rfl:=Bn h2
    refine Ag z z<|BT z z z<|Ac<|AI z (fun hc2=>?_) (fun hc2=>?_)
    ·replace hL1:=AC hL1 hc2
     refine Ad<|Ae z z<|Ac<|AP<|Bk<|Az<|Az<|Bk<|Az<|Az<|?_
     obtain rfl:=Aa hL1
     dsimp only at hF
     obtain rfl:=Aa hF
     exact A8 z z<|⟨_,z,AR hC1 _⟩
    replace hL1:=AD hL1 hc2
    exact AJ<|AM<|Am<|Bb<|Ag z z<|Bj z z z<|Ae z z<|Ac<|Ak (l':=[(0,u1),(1,(I a2)),(5,(I (w64 (x1+1))))]) ⟨z,z,z,Ai⟩<|⟨k1,Av _,w64 (x1+1),z,(Ap hB1).below,hC1,hL1⟩
   replace hL1:=AD hL1 hc1
   refine Bt (A1 (A1 (Be ?_)))
   obtain rfl:=Aa hL1
   exact Ak (l':=[]) Ai<|⟨z,z,(Ap hB1).below,hC1⟩
 rintro l2 _ w2 hs2 ⟨rfl,rfl,hB2,hC2⟩
 try dsimp only at hF
 refine AL hs2 ?_
 clear hs2
 refine Ad<|Ae z z<|Ac<|AP<|?_
 obtain rfl:=Aa hF
 exact A8 z z<|⟨_,z,AR hC2 _⟩
theorem c_S_l3Put_own {w0:World} {Fs:List (List Nat)} (a1:(List Int)) (u1:Value) (a2:Int) (hH:Hold [Ab u1 (a1:(List Int))] w0 Fs) (hn:Fs.flatten.Nodup) (rr:(List Int)) (hF:S.l3Put a1 a2=some rr) :
 Calls Tryz.prog 83 [u1,(I a2)].toArray w0 fun e w'=>∃v,e=.returned v∧∃q0:Value,v=q0∧Ctx Fs.flatten w0 w' [Ab q0 (rr:(List Int))]:=by
 refine Au Tryz.func83 z z ?_
 have hC0:=BD hH hn
 unfold S.l3Put at hF
 refine Ad<|Ae z z<|Ac<|A6<|Ad<|Ag z z<|Ag z z<|be hF fun x1 hr1 hF=>cb Cl z z (c_S_l2Has a1 u1 ((hC0.ro 0 z).now (Aq _ _)) a2 x1 hr1) fun w1 hB1=>have hC1:=hC0.grow hB1;Ac<|AI z (fun hc1=>?_) (fun hc1=>?_)
 ·replace hF:=AC hF hc1
  refine Ad<|Ag z z<|Ae z z<|Ac<|AP<|Az<|?_
  obtain rfl:=Aa hF
  exact A8 z z<|⟨_,z,_,z,hC1⟩
 replace hF:=AD hF hc1
 refine AJ<|Am<|Ad<|A2 (vs:=[]) hC1 Ah ty3 z z z z (by simp) z z fun b1 w2 hC3 hB2=>?_
 have hC4:=hC3.row0 (α:=Int)
 have hC5:=hC4.front 1 z
 dsimp only [List.eraseIdx,List.cons_append,List.nil_append,List.append_nil] at hC5
 have hC6:Ctx Fs.flatten w0 w2 (Ab (.slice (some ⟨b1,0,none⟩) 0 0) (([]:List Int):List Int)::[Ab u1 (a1:(List Int))]):=hC5.rowOwn (by simp [maxLen])
 refine Ae z z<|Ac<|Ad<|Ae z z<|Ac<|A6<|Ad<|Ae z z<|Ac<|be hF fun r1 hr2 hF=>Bd (fun l w=>∃v2:Value,∃x5:(List Int),∃x6:Bool,(x5,x6)=r1∧l=[(1,(I a2)),(5,v2),(6,(.bool x6))]∧Ctx Fs.flatten w0 w [Ab v2 (x5:(List Int)),Ab u1 (a1:(List Int))]) ?_ ?_
 ·refine AH<|wS (l':=[(0,u1),(1,(I a2)),(5,(.slice (some ⟨b1,0,none⟩) 0 0)),(6,(.bool false)),(7,(I 0))]) ⟨z,z,z,z,z,Ai⟩<|Bu (fun k l w=>∃v1:Value,∃x2:(List Int),∃x3:Bool,∃x4:Int,l=[(0,u1),(1,(I a2)),(5,v1),(6,(.bool x3)),(7,(I x4))]∧Ctx Fs.flatten w0 w [Ab v1 (x2:(List Int)),Ab u1 (a1:(List Int))]∧S.l3Put_l1 a1 a2 k x2 x3 x4=some r1) FUEL ⟨(.slice (some ⟨b1,0,none⟩) 0 0),([]:List Int),false,0,z,hC6,hr2⟩<|?_
  clear hr2
  rintro k1 _ w3 ⟨v1,x2,x3,x4,rfl,hC7,hL1⟩
  cases k1 with
  | zero=>rw [S.l3Put_l1] at hL1; cases hL1
  | succ k1 =>
   rw [S.l3Put_l1] at hL1
   refine A6<|Ad<|Ag z z<|Ag z z<|AZ Ah (hC7.ro 1 z) z z<|Bo z z z<|Ac<|AI z (fun hc2=>?_) (fun hc2=>?_)
   ·replace hL1:=AC hL1 hc2
    refine AJ<|Am<|A6<|AH<|A6<|be hL1 fun r2 hr3 hL1=>BA (fun l w=>∃x7:Bool,x7=r2∧l=[(0,u1),(1,(I a2)),(5,v1),(6,(.bool x3)),(7,(I x4)),(28,(.bool x7))]∧Below w3.heap.size w3 w∧Ctx Fs.flatten w0 w [Ab v1 (x2:(List Int)),Ab u1 (a1:(List Int))]) ?_ ?_
    ·refine Bb<|Ag z z<|Bx z z<|Ag z z<|Br (fun hc3=>?_) (fun hc3=>?_)
     ·replace hr3:=AC hr3 hc3
      refine Aj z z<|Ag z z<|Aj z z<|Ag z z<|be hr3 fun x8 hx1 hr3=>Aj z z<|AG Ah ty3 (hC7.ro 1 z) hx1 z z z fun b2 o1 h1=>Aj z z<|A3 ty3 h1 (Aq _ _) z z fun v3 h2=>?_
      obtain rfl:=Bn h2
      refine Aj z z<|Ag z z<|Aj z z<|C8 z z z<|AV z z z<|Ac<|?_
      obtain rfl:=Aa hr3
      exact Ak (l':=[(0,u1),(1,(I a2)),(5,v1),(6,(.bool x3)),(7,(I x4)),(28,(.bool (decide (a2 < x8))))]) ⟨z,z,z,z,z,z,Ai⟩<|⟨(decide (a2 < x8)),z,z,(Al _ _),hC7⟩
     replace hr3:=AD hr3 hc3
     refine gs z z z z<|gs z z z z<|gs z z z z<|gs z z z z<|gs z z z z<|gs z z z z<|AS z z z<|Ac<|?_
     obtain rfl:=Aa hr3
     exact Ak (l':=[(0,u1),(1,(I a2)),(5,v1),(6,(.bool x3)),(7,(I x4)),(28,(.bool false))]) ⟨z,z,z,z,z,z,Ai⟩<|⟨false,z,z,(Al _ _),hC7⟩
    rintro _ w4 ⟨x7,rfl,rfl,hB4,hC8⟩
    try dsimp only at hL1
    refine be hL1 fun r3 hr4 hL1=>Bd (fun l w=>∃v4:Value,∃x9:(List Int),∃x10:Bool,(x9,x10)=r3∧l=[(0,u1),(1,(I a2)),(5,v4),(6,(.bool x10)),(7,(I x4))]∧Ctx Fs.flatten w0 w [Ab v4 (x9:(List Int)),Ab u1 (a1:(List Int))]) ?_ ?_
    ·refine AI z (fun hc4=>?_) (fun hc4=>?_)
     ·replace hr4:=AC hr4 hc4
      refine Ad<|Ag z z<|Ag z z<|A2 (vs:=[(I a2)]) hC8 Ah ty3 z z z z (fac z<|fa0) z z fun b3 w6 hC10 hB6=>?_
      have hC11:=hC10.row0 (α:=Int)
      have hC12:=hC11.triv (Bm (a2))
      have hC13:=hC12.row1
      have hC14:=hC13.front 1 z
      dsimp only [List.eraseIdx,List.cons_append,List.nil_append,List.append_nil] at hC14
      have hC15:Ctx Fs.flatten w0 w6 (Ab (.slice (some ⟨b3,0,none⟩) 1 1) ([a2]:List Int)::[Ab v1 (x2:(List Int)),Ab u1 (a1:(List Int))]):=hC14.rowOwn (by simp [maxLen])
      refine be hr4 fun x11 hx2 hr4=>Bi (α:=Int) hC15 1 z (hC15.ro 0 z) (Aq _ _) Ah ty3 z hx2 z z z fun v5 w7 hC16=>?_
      try dsimp only [List.set] at hC16
      refine Ae z z<|Ac<|Bb<|Ae z z<|Ac<|?_
      obtain rfl:=Aa hr4
      have hC17:=hC16.f2
      have hC18:=hC17.f2
      have hC19:=hC18.h2
      exact Ak (l':=[(0,u1),(1,(I a2)),(5,v5),(6,(.bool true)),(7,(I x4))]) ⟨z,z,z,z,z,Ai⟩<|⟨v5,x11,true,z,z,hC19⟩
     replace hr4:=AD hr4 hc4
     refine AJ ?_
     obtain rfl:=Aa hr4
     exact Ak (l':=[(0,u1),(1,(I a2)),(5,v1),(6,(.bool x3)),(7,(I x4))]) ⟨z,z,z,z,z,Ai⟩<|⟨v1,x2,x3,z,z,hC8⟩
    rintro l3 _ w5 hs3 ⟨v4,x9,x10,rfl,rfl,hC9⟩
    try dsimp only at hL1
    refine AL hs3 ?_
    clear hs3
    refine Bb<|Ag z z<|Ag z z<|Ag z z<|be hL1 fun x12 hx3 hL1=>AG Ah ty3 (hC9.ro 1 z) hx3 z z z fun b4 o2 h3=>A3 ty3 h3 (Aq _ _) z z fun v6 h4=>?_
    obtain rfl:=Bn h4
    refine A2 (vs:=[(I x12)]) hC9 Ah ty3 z z z z (fac z<|fa0) z z (fun b5 w9 hC20 hB7=>?_)
    have hC21:=hC20.row0 (α:=Int)
    have hC22:=hC21.triv (Bm (x12))
    have hC23:=hC22.row1
    have hC24:=hC23.front 1 z
    dsimp only [List.eraseIdx,List.cons_append,List.nil_append,List.append_nil] at hC24
    have hC25:Ctx Fs.flatten w0 w9 (Ab (.slice (some ⟨b5,0,none⟩) 1 1) ([x12]:List Int)::[Ab v4 (x9:(List Int)),Ab u1 (a1:(List Int))]):=hC24.rowOwn (by simp [maxLen])
    refine be hL1 fun x13 hx4 hL1=>Bi (α:=Int) hC25 1 z (hC25.ro 0 z) (Aq _ _) Ah ty3 z hx4 z z z fun v7 w10 hC26=>?_
    try dsimp only [List.set] at hC26
    exact Ae z z<|Ac<|AM<|Am<|Bb<|Ag z z<|Bj z z z<|Ae z z<|Ac<|have hC27:=hC26.f2;have hC28:=hC27.f2;have hC29:=hC28.h2;Ak (l':=[(0,u1),(1,(I a2)),(5,v7),(6,(.bool x10)),(7,(I (w64 (x4+1))))]) ⟨z,z,z,z,z,Ai⟩<|⟨k1,Av _,v7,x13,x10,w64 (x4+1),z,hC29,hL1⟩
   replace hL1:=AD hL1 hc2
   refine Bt (A1 (A1 (Be ?_)))
   obtain rfl:=Aa hL1
   exact Ak (l':=[(1,(I a2)),(5,v1),(6,(.bool x3))]) ⟨z,z,z,Ai⟩<|⟨v1,x2,x3,z,z,hC7⟩
 rintro l4 _ w11 hs4 ⟨v2,x5,x6,rfl,rfl,hC30⟩
 try dsimp only at hF
 refine AL hs4 ?_
 clear hs4
 refine A6<|Ad<|Ag z z<|Bx z z<|Ac<|be hF fun r4 hr5 hF=>Bd (fun l w=>∃v8:Value,∃x14:(List Int),x14=r4∧l=[(5,v8)]∧Ctx Fs.flatten w0 w [Ab v8 (x14:(List Int)),Ab u1 (a1:(List Int))]) ?_ ?_
 ·refine AI z (fun hc5=>?_) (fun hc5=>?_)
  ·replace hr5:=AC hr5 hc5
   refine Bb<|Ag z z<|Ag z z<|A2 (vs:=[(I a2)]) hC30 Ah ty3 z z z z (fac z<|fa0) z z fun b6 w13 hC32 hB10=>?_
   have hC33:=hC32.row0 (α:=Int)
   have hC34:=hC33.triv (Bm (a2))
   have hC35:=hC34.row1
   have hC36:=hC35.front 1 z
   dsimp only [List.eraseIdx,List.cons_append,List.nil_append,List.append_nil] at hC36
   have hC37:Ctx Fs.flatten w0 w13 (Ab (.slice (some ⟨b6,0,none⟩) 1 1) ([a2]:List Int)::[Ab v2 (x5:(List Int)),Ab u1 (a1:(List Int))]):=hC36.rowOwn (by simp [maxLen])
   refine be hr5 fun x15 hx5 hr5=>Bi (α:=Int) hC37 1 z (hC37.ro 0 z) (Aq _ _) Ah ty3 z hx5 z z z fun v9 w14 hC38=>?_
   try dsimp only [List.set] at hC38
   refine Ae z z<|Ac<|?_
   obtain rfl:=Aa hr5
   have hC39:=hC38.f2
   have hC40:=hC39.f2
   have hC41:=hC40.h2
   exact Ak (l':=[(5,v9)]) ⟨z,Ai⟩<|⟨v9,x15,z,z,hC41⟩
  replace hr5:=AD hr5 hc5
  refine AJ ?_
  obtain rfl:=Aa hr5
  exact Ak (l':=[(5,v2)]) ⟨z,Ai⟩<|⟨v2,x5,z,z,hC30⟩
 rintro l5 _ w12 hs5 ⟨v8,x14,rfl,rfl,hC31⟩
 try dsimp only at hF
 refine AL hs5 ?_
 clear hs5
 refine Ad<|Ag z z<|Ae z z<|Ac<|AP<|?_
 obtain rfl:=Aa hF
 exact A8 z z<|have hC43:=hC31.h1;⟨_,z,_,z,hC43⟩
theorem c_S_l30Passed {w0:World} (a1:(Int × (List Int) × Int × Int × Int)) (u1:Value) (g1:RO [] w0 u1 a1.2.1) (a2:(Int × (List Int))) (u2:Value) (g2:RO [] w0 u2 a2.2) (rr:(List Int)) (hF:S.l30Passed a1 a2=some rr) :
 Calls Tryz.prog 56 [(.agg #[(I a1.1),u1,(I a1.2.2.1),(I a1.2.2.2.1),(I a1.2.2.2.2)]),(.agg #[(I a2.1),u2])].toArray w0 fun e w'=>∃v,e=.returned v∧Res w0 rr v w':=by
 refine Au Tryz.func56 z z ?_
 have hC0:=AA w0
 unfold S.l30Passed at hF
 refine Ad<|Bv (cs:=[(I a1.1),u1,(I a1.2.2.1),(I a1.2.2.2.1),(I a1.2.2.2.2)]) hC0 z z z fun b1 w1 hC1 hB1 hN1=>Bv (cs:=[(I a2.1),u2]) hC1 z z z fun b2 w2 hC2 hB2 hN2=>Ae z z<|Ac<|Ad<|A2 (vs:=[]) hC2 Ah ty3 z z z z (by simp) z z fun b3 w3 hC3 hB3=>?_
 have hC4:=hC3.row0 (α:=Int)
 have hC5:=hC4.front 1 z
 dsimp only [List.eraseIdx,List.cons_append,List.nil_append,List.append_nil] at hC5
 have hC6:Ctx [] w0 w3 (Ab (.slice (some ⟨b3,0,none⟩) 0 0) (([]:List Int):List Int)::[Af b2 [(I a2.1),u2],Af b1 [(I a1.1),u1,(I a1.2.2.1),(I a1.2.2.2.1),(I a1.2.2.2.2)]]):=hC5.rowOwn (by simp [maxLen])
 refine Ae z z<|Ac<|A6<|Ad<|Ae z z<|Ac<|be hF fun r1 hr1 hF=>Bd (fun l w=>∃v2:Value,∃x3:(List Int),x3=r1∧l=[(5,v2)]∧Ctx [] w0 w [Ab v2 (x3:(List Int))]) ?_ ?_
 ·refine AH<|wS (l':=[(2,(ptr b1 0)),(3,(ptr b2 0)),(5,(.slice (some ⟨b3,0,none⟩) 0 0)),(6,(I 0))]) ⟨z,z,z,z,Ai⟩<|Bu (fun k l w=>∃v1:Value,∃x1:(List Int),∃x2:Int,l=[(2,(ptr b1 0)),(3,(ptr b2 0)),(5,v1),(6,(I x2))]∧Ctx [] w0 w [Ab v1 (x1:(List Int)),Af b2 [(I a2.1),u2],Af b1 [(I a1.1),u1,(I a1.2.2.1),(I a1.2.2.2.1),(I a1.2.2.2.2)]]∧S.l30Passed_l1 a1 a2 k x1 x2=some r1) FUEL ⟨(.slice (some ⟨b3,0,none⟩) 0 0),([]:List Int),0,z,hC6,hr1⟩<|?_
  clear hr1
  rintro k1 _ w4 ⟨v1,x1,x2,rfl,hC7,hL1⟩
  cases k1 with
  | zero=>rw [S.l30Passed_l1] at hL1; cases hL1
  | succ k1 =>
   rw [S.l30Passed_l1] at hL1
   refine A6<|Ad<|Ag z z<|fd AN Aw z z z z<|Ao hC7 2 z z AQ z z<|AZ Ah g1 z z<|Bo z z z<|Ac<|AI z (fun hc1=>?_) (fun hc1=>?_)
   ·replace hL1:=AC hL1 hc1
    refine AJ<|Am<|A6<|AH<|be hL1 fun r2 hr2 hL1=>BA (fun l w=>∃x4:Bool,x4=r2∧l=[(2,(ptr b1 0)),(3,(ptr b2 0)),(5,v1),(6,(I x2)),(36,(.bool x4))]∧Below w4.heap.size w4 w∧Ctx [] w0 w [Ab v1 (x1:(List Int)),Af b2 [(I a2.1),u2],Af b1 [(I a1.1),u1,(I a1.2.2.1),(I a1.2.2.2.1),(I a1.2.2.2.2)]]) ?_ ?_
    ·refine B1 22 z hmix fun w6 hB6=>have hC9:=hC7.grow hB6;tf 0 AN Aw z z z z z<|tm 2 z z z<|tf 5 AB Aw z z z z z<|be hr2 fun x5 hx1 hr2=>wAS (l':=[(2,(ptr b1 0)),(3,(ptr b2 0)),(5,v1),(6,(I x2)),(8,(I x2)),(9,(ptr b1 1)),(10,u1),(11,(I (List.length a1.2.1:Int))),(12,(.bool (decide (x2 < (List.length a1.2.1:Int))))),(15,(ptr b1 1)),(17,(I x2)),(20,(ptr b2 1))]) ⟨z,z,z,z,z,z,z,z,z,z,z,z,Ai⟩<|Bw [⟨1,[],fun vs=>Bh u1,[]⟩,⟨3,[],fun vs=>Ci [] w0 x5,[]⟩,⟨4,[],fun vs=>Bh (I x5),[]⟩,⟨6,[],fun vs=>Bh u2,[]⟩,⟨7,[],fun vs=>Bh (I (List.length a2.2:Int)),[]⟩,⟨8,[],fun vs=>Bh (I (w64 ((List.length a2.2:Int) - 1))),[]⟩] [[],[1],[3],[],[6],[7]] 13 z (by kernel_rfl) (by kernel_rfl) z ?_ ?_
     ·refine An z ?_ ?_
      ·intro w7 hB7
       refine Ar<|⟨_,z,?_⟩
       exact Ao (hC9.grow hB7) 2 z z AQ z z<|Ac<|Ay (Al _ _) z z ⟨z,z⟩
      refine An z ?_ ?_
      ·intro w7 hB7
       refine AK z z z ?_
       rintro _ _ ⟨rfl,rfl⟩ _
       refine Ar<|⟨_,z,?_⟩
       exact AG Ah ty3 g1 hx1 z z z fun b4 o1 h1=>Ac<|Ay (Al _ _) z z ⟨z,_,_,z,h1⟩
      refine An z ?_ ?_
      ·intro w7 hB7
       refine AK z z z ?_
       rintro _ _ ⟨rfl,b4,o1,rfl,h1⟩ _
       refine Ar<|⟨_,z,?_⟩
       refine A3 ty3 h1 (hC9.keep.then hB7) z z (fun v3 h2=>?_)
       obtain rfl:=Bn h2
       exact Ac<|Ay (Al _ _) z z ⟨z,z⟩
      refine An z ?_ ?_
      ·intro w7 hB7
       refine Ar<|⟨_,z,?_⟩
       exact Ao (hC9.grow hB7) 1 z z AQ z z<|Ac<|Ay (Al _ _) z z ⟨z,z⟩
      refine An z ?_ ?_
      ·intro w7 hB7
       refine AK z z z ?_
       rintro _ _ ⟨rfl,rfl⟩ _
       refine Ar<|⟨_,z,?_⟩
       exact AZ Ah g2 z z<|Ac<|Ay (Al _ _) z z ⟨z,z⟩
      refine An z ?_ ?_
      ·intro w7 hB7
       refine AK z z z ?_
       rintro _ _ ⟨rfl,rfl⟩ _
       refine Ar<|⟨_,z,?_⟩
       exact BN z z z<|Ac<|Ay (Al _ _) z z ⟨z,z⟩
      exact Bp
     intro w9 hB8
     refine At z z z ?_
     rintro _ _ ⟨rfl,rfl⟩
     refine At z z z ?_
     rintro _ _ ⟨rfl,b4,o1,rfl,h1⟩
     refine At z z z ?_
     rintro _ _ ⟨rfl,rfl⟩
     refine At z z z ?_
     rintro _ _ ⟨rfl,rfl⟩
     refine At z z z ?_
     rintro _ _ ⟨rfl,rfl⟩
     refine At z z z ?_
     rintro _ _ ⟨rfl,rfl⟩
     refine B0 fun hn1 hb1=>have hC10:=hC9.grow hB8;be hr2 fun x6 hr3 hr2=>oe 9 z<|cb B9 z z (c_S_l1In x5 0 (w64 ((List.length a2.2:Int) - 1)) x6 hr3) fun w10 hB9=>have hC11:=hC10.grow hB9;Ac<|tm 10 z z z<|BQ (fun hc2=>?_) (fun hc2=>?_)
     ·replace hr2:=AC hr2 hc2
      refine tg 11 z z z z (BC AB z z (fun w=>⟨_,Aw w⟩) z)<|Aj z z<|fd AB Aw z z z z<|Ac<|tg 13 z z z z (BC AN z z (fun w=>⟨_,Aw w⟩) z)<|Aj z z<|fd AN Aw z z z z<|Ac<|tn 15 z z z z z<|be hr2 fun x7 hx2 hr2=>wAS (l':=[(2,(ptr b1 0)),(3,(ptr b2 0)),(5,v1),(6,(I x2)),(8,(I x2)),(9,(ptr b1 1)),(10,u1),(11,(I (List.length a1.2.1:Int))),(12,(.bool (decide (x2 < (List.length a1.2.1:Int))))),(15,(ptr b1 1)),(16,u1),(17,(I x2)),(18,(ptr b4 o1)),(19,(I x5)),(20,(ptr b2 1)),(21,u2),(22,(I (List.length a2.2:Int))),(23,(I (w64 ((List.length a2.2:Int) - 1)))),(24,(.bool x6)),(25,(.bool true)),(26,(ptr b2 1)),(28,(ptr b1 1)),(30,(I x2))]) ⟨z,z,z,z,z,z,z,z,z,z,z,z,z,z,z,z,z,z,z,z,z,z,z,Ai⟩<|Bw [⟨12,[],fun vs=>Bh u2,[]⟩,⟨14,[],fun vs=>Bh u1,[]⟩,⟨16,[],fun vs=>Ci [] w0 x7,[]⟩,⟨17,[],fun vs=>Bh (I x7),[]⟩] [[],[],[14],[16]] 4 z (by kernel_rfl) (by kernel_rfl) z ?_ ?_
      ·refine An z ?_ ?_
       ·intro w11 hB10
        refine Ar<|⟨_,z,?_⟩
        exact Aj z z<|Ao (hC11.grow hB10) 1 z z AQ z z<|Ac<|Ay (Al _ _) z z ⟨z,z⟩
       refine An z ?_ ?_
       ·intro w11 hB10
        refine Ar<|⟨_,z,?_⟩
        exact Aj z z<|Ao (hC11.grow hB10) 2 z z AQ z z<|Ac<|Ay (Al _ _) z z ⟨z,z⟩
       refine An z ?_ ?_
       ·intro w11 hB10
        refine AK z z z ?_
        rintro _ _ ⟨rfl,rfl⟩ _
        refine Ar<|⟨_,z,?_⟩
        exact Aj z z<|AG Ah ty3 g1 hx2 z z z fun b5 o2 h3=>Ac<|Ay (Al _ _) z z ⟨z,_,_,z,h3⟩
       refine An z ?_ ?_
       ·intro w11 hB10
        refine AK z z z ?_
        rintro _ _ ⟨rfl,b5,o2,rfl,h3⟩ _
        refine Ar<|⟨_,z,?_⟩
        refine Aj z z<|A3 ty3 h3 (hC11.keep.then hB10) z z fun v4 h4=>?_
        obtain rfl:=Bn h4
        exact Ac<|Ay (Al _ _) z z ⟨z,z⟩
       exact Bp
      intro w12 hB11
      refine At z z z ?_
      rintro _ _ ⟨rfl,rfl⟩
      refine At z z z ?_
      rintro _ _ ⟨rfl,rfl⟩
      refine At z z z ?_
      rintro _ _ ⟨rfl,b5,o2,rfl,h3⟩
      refine At z z z ?_
      rintro _ _ ⟨rfl,rfl⟩
      refine B0 fun hn2 hb2=>have hC12:=hC11.grow hB11;be hr2 fun x8 hx3 hr2=>tg 18 z z z z (B4 Ah ty3 g2 hx3 z z)<|Aj z z<|AG Ah ty3 g2 hx3 z z z fun b6 o3 h5=>Ac<|oe 19 z<|Aj z z<|A3 ty3 h5 hC12.keep z z fun v5 h6=>?_
      obtain rfl:=Bn h6
      refine Ac<|be hr2 fun x9 hr4 hr2=>oe 20 z<|Aj z z<|cb B9 z z (c_S_l1In x8 0 9 x9 hr4) fun w13 hB12=>have hC13:=hC12.grow hB12;Ac<|tp 21 z z z z<|dn<|?_
      obtain rfl:=Aa hr2
      exact Ak (l':=[(2,(ptr b1 0)),(3,(ptr b2 0)),(5,v1),(6,(I x2)),(36,(.bool x9))]) ⟨z,z,z,z,z,Ai⟩<|⟨x9,z,z,(((((Ap hB6).then hB8).then hB9).then hB11).then hB12).below,hC13⟩
     replace hr2:=AD hr2 hc2
     refine sk 11 z z z z z<|sk 12 z z z z z<|sk 13 z z z z z<|sk 14 z z z z z<|sk 15 z z z z z<|sk 16 z z z z z<|sk 17 z z z z z<|sk 18 z z z z z<|sk 19 z z z z z<|sk 20 z z z z z<|tq 21 z z z z<|dn<|?_
     obtain rfl:=Aa hr2
     exact Ak (l':=[(2,(ptr b1 0)),(3,(ptr b2 0)),(5,v1),(6,(I x2)),(36,(.bool false))]) ⟨z,z,z,z,z,Ai⟩<|⟨false,z,z,(((Ap hB6).then hB8).then hB9).below,hC11⟩
    rintro _ w5 ⟨x4,rfl,rfl,hB5,hC8⟩
    try dsimp only at hL1
    refine be hL1 fun r3 hr5 hL1=>Bd (fun l w=>∃v6:Value,∃x10:(List Int),x10=r3∧l=[(2,(ptr b1 0)),(3,(ptr b2 0)),(5,v6),(6,(I x2))]∧Ctx [] w0 w [Ab v6 (x10:(List Int)),Af b2 [(I a2.1),u2],Af b1 [(I a1.1),u1,(I a1.2.2.1),(I a1.2.2.2.1),(I a1.2.2.2.2)]]) ?_ ?_
    ·refine AI z (fun hc3=>?_) (fun hc3=>?_)
     ·replace hr5:=AC hr5 hc3
      refine B1 12 z hmix fun w15 hB14=>have hC15:=hC8.grow hB14;tm 0 z z z<|tf 1 AB Aw z z z z z<|tf 3 AN Aw z z z z z<|tm 5 z z z<|be hr5 fun x11 hx4 hr5=>wAS (l':=[(2,(ptr b1 0)),(3,(ptr b2 0)),(5,v1),(6,(I x2)),(36,(.bool x4)),(37,v1),(38,(ptr b2 1)),(40,(ptr b1 1)),(42,(I x2))]) ⟨z,z,z,z,z,z,z,z,z,Ai⟩<|Bw [⟨2,[],fun vs=>Bh u2,[]⟩,⟨4,[],fun vs=>Bh u1,[]⟩,⟨6,[],fun vs=>Ci [] w0 x11,[]⟩,⟨7,[],fun vs=>Bh (I x11),[]⟩] [[],[],[4],[6]] 4 z (by kernel_rfl) (by kernel_rfl) z ?_ ?_
      ·refine An z ?_ ?_
       ·intro w16 hB15
        refine Ar<|⟨_,z,?_⟩
        exact Ao (hC15.grow hB15) 1 z z AQ z z<|Ac<|Ay (Al _ _) z z ⟨z,z⟩
       refine An z ?_ ?_
       ·intro w16 hB15
        refine Ar<|⟨_,z,?_⟩
        exact Ao (hC15.grow hB15) 2 z z AQ z z<|Ac<|Ay (Al _ _) z z ⟨z,z⟩
       refine An z ?_ ?_
       ·intro w16 hB15
        refine AK z z z ?_
        rintro _ _ ⟨rfl,rfl⟩ _
        refine Ar<|⟨_,z,?_⟩
        exact AG Ah ty3 g1 hx4 z z z fun b7 o4 h7=>Ac<|Ay (Al _ _) z z ⟨z,_,_,z,h7⟩
       refine An z ?_ ?_
       ·intro w16 hB15
        refine AK z z z ?_
        rintro _ _ ⟨rfl,b7,o4,rfl,h7⟩ _
        refine Ar<|⟨_,z,?_⟩
        refine A3 ty3 h7 (hC15.keep.then hB15) z z (fun v7 h8=>?_)
        obtain rfl:=Bn h8
        exact Ac<|Ay (Al _ _) z z ⟨z,z⟩
       exact Bp
      intro w17 hB16
      refine At z z z ?_
      rintro _ _ ⟨rfl,rfl⟩
      refine At z z z ?_
      rintro _ _ ⟨rfl,rfl⟩
      refine At z z z ?_
      rintro _ _ ⟨rfl,b7,o4,rfl,h7⟩
      refine At z z z ?_
      rintro _ _ ⟨rfl,rfl⟩
      refine B0 fun hn3 hb3=>have hC16:=hC15.grow hB16;be hr5 fun x12 hx5 hr5=>tk 8 z z (B4 Ah ty3 g2 hx5 z z)<|AG Ah ty3 g2 hx5 z z z fun b8 o5 h9=>Ac<|oe 9 z<|A3 ty3 h9 hC16.keep z z fun v8 h10=>?_
      obtain rfl:=Bn h10
      refine Ac<|be hr5 fun x13 hr6 hr5=>oe 10 z<|?_
      obtain ⟨Fs1,hH1,hn4,hF1,hO1,hb4⟩:=AW (As:=[Af b2 [(I a2.1),u2],Af b1 [(I a1.1),u1,(I a1.2.2.1),(I a1.2.2.2.1),(I a1.2.2.2.2)]]) [Ab v1 (x1:(List Int))] hC16
      refine A7 C2 z z (c_S_l3Put_own x1 v1 x12 hH1 hn4 x13 hr6) ?_
      rintro v9 w18 ⟨_,rfl,hq3⟩
      have hC18:Ctx [] w0 w18 [Ab v9 (x13:(List Int)),Af b2 [(I a2.1),u2],Af b1 [(I a1.1),u1,(I a1.2.2.1),(I a1.2.2.2.1),(I a1.2.2.2.2)]]:=hb4 _ _ hq3
      refine Ac<|ta 11 z z z<|dn<|?_
      obtain rfl:=Aa hr5
      exact Ak (l':=[(2,(ptr b1 0)),(3,(ptr b2 0)),(5,v9),(6,(I x2))]) ⟨z,z,z,z,Ai⟩<|⟨v9,x13,z,z,hC18⟩
     replace hr5:=AD hr5 hc3
     refine AJ ?_
     obtain rfl:=Aa hr5
     exact Ak (l':=[(2,(ptr b1 0)),(3,(ptr b2 0)),(5,v1),(6,(I x2))]) ⟨z,z,z,z,Ai⟩<|⟨v1,x1,z,z,hC8⟩
    rintro l3 _ w14 hs3 ⟨v6,x10,rfl,rfl,hC14⟩
    try dsimp only at hL1
    refine AM<|AL hs3<|?_
    clear hs3
    exact Bb<|Ag z z<|Bj z z z<|Ae z z<|Ac<|Ak (l':=[(2,(ptr b1 0)),(3,(ptr b2 0)),(5,v6),(6,(I (w64 (x2+1))))]) ⟨z,z,z,z,Ai⟩<|⟨k1,Av _,v6,x10,w64 (x2+1),z,hC14,hL1⟩
   replace hL1:=AD hL1 hc1
   refine Bt (A1 (A1 (Be ?_)))
   obtain rfl:=Aa hL1
   have hC19:=hC7.h1
   exact Ak (l':=[(5,v1)]) ⟨z,Ai⟩<|⟨v1,x1,z,z,hC19⟩
 rintro l4 _ w19 hs4 ⟨v2,x3,rfl,rfl,hC20⟩
 try dsimp only at hF
 refine AL hs4 ?_
 clear hs4
 refine Ad<|Ag z z<|Ae z z<|Ac<|AP<|?_
 obtain rfl:=Aa hF
 exact A8 z z<|⟨_,z,Co hC20 0 z⟩
theorem c_S_Disclosed {w0:World} (a1:(List (Int × (List Int) × Int × Int × Int))) (u1:Value) (g1:RO [] w0 u1 a1) (a2:((List Int) × (List (Int × (List Int))))) (u2:Value) (g2:RO [] w0 u2 a2.1) (u3:Value) (g3:RO [] w0 u3 a2.2) (a3:(List (Int × Int))) (u4:Value) (g4:RO [] w0 u4 a3) (rr:(List Int)) (hF:S.Disclosed a1 a2 a3=some rr) :
 Calls Tryz.prog 39 [u1,(.agg #[u2,u3]),u4].toArray w0 fun e w'=>∃v,e=.returned v∧Res w0 rr v w':=by
 refine Au Tryz.func39 z z ?_
 have hC0:=AA w0
 unfold S.Disclosed at hF
 refine Ad<|Bv (cs:=[u2,u3]) hC0 z z z fun b1 w1 hC1 hB1 hN1=>Ae z z<|Ac<|Ad<|A2 (vs:=[]) hC1 Ah ty3 z z z z (by simp) z z fun b2 w2 hC2 hB2=>?_
 have hC3:=hC2.row0 (α:=Int)
 have hC4:=hC3.front 1 z
 dsimp only [List.eraseIdx,List.cons_append,List.nil_append,List.append_nil] at hC4
 have hC5:Ctx [] w0 w2 (Ab (.slice (some ⟨b2,0,none⟩) 0 0) (([]:List Int):List Int)::[Af b1 [u2,u3]]):=hC4.rowOwn (by simp [maxLen])
 refine Ae z z<|Ac<|A6<|Ad<|Ae z z<|Ac<|be hF fun r1 hr1 hF=>Bd (fun l w=>∃v2:Value,∃x3:(List Int),x3=r1∧l=[(7,v2)]∧Ctx [] w0 w [Ab v2 (x3:(List Int))]) ?_ ?_
 ·refine AH<|wS (l':=[(0,u1),(2,u4),(4,(ptr b1 0)),(7,(.slice (some ⟨b2,0,none⟩) 0 0)),(8,(I 0))]) ⟨z,z,z,z,z,Ai⟩<|Bu (fun k l w=>∃v1:Value,∃x1:(List Int),∃x2:Int,l=[(0,u1),(2,u4),(4,(ptr b1 0)),(7,v1),(8,(I x2))]∧Ctx [] w0 w [Ab v1 (x1:(List Int)),Af b1 [u2,u3]]∧S.Disclosed_l1 a3 a2 a1 k x1 x2=some r1) FUEL ⟨(.slice (some ⟨b2,0,none⟩) 0 0),([]:List Int),0,z,hC5,hr1⟩<|?_
  clear hr1
  rintro k1 _ w3 ⟨v1,x1,x2,rfl,hC6,hL1⟩
  cases k1 with
  | zero=>rw [S.Disclosed_l1] at hL1; cases hL1
  | succ k1 =>
   rw [S.Disclosed_l1] at hL1
   refine A6<|Ad<|Ag z z<|Ag z z<|AZ A5 g4 z z<|Bo z z z<|Ac<|AI z (fun hc1=>?_) (fun hc1=>?_)
   ·replace hL1:=AC hL1 hc1
    refine AJ<|Am<|A6<|AH<|A6<|be hL1 fun r2 hr2 hL1=>BA (fun l w=>∃x4:Bool,x4=r2∧l=[(0,u1),(2,u4),(4,(ptr b1 0)),(7,v1),(8,(I x2)),(40,(.bool x4))]∧Below w3.heap.size w3 w∧Ctx [] w0 w [Ab v1 (x1:(List Int)),Af b1 [u2,u3]]) ?_ ?_
    ·refine B1 23 z hmix fun w5 hB5=>have hC8:=hC6.grow hB5;tm 0 z z z<|tm 1 z z z<|be hr2 fun x5 hx1 hr2=>tk 2 z z (B4 A5 ty75 g4 hx1 z z)<|AG A5 ty75 g4 hx1 z z z fun b3 o1 h1=>Ac<|tf 3 AX AE z z z z z<|tf 5 A0 AU z z z z z<|wAS (l':=[(0,u1),(2,u4),(4,(ptr b1 0)),(7,v1),(8,(I x2)),(12,(I x2)),(13,u4),(14,(I (List.length a3:Int))),(15,(.bool (decide (x2 < (List.length a3:Int))))),(18,u4),(19,(I x2)),(20,(ptr b3 o1)),(21,(ptr b3 (o1+0))),(23,(ptr b1 1))]) ⟨z,z,z,z,z,z,z,z,z,z,z,z,z,z,Ai⟩<|Bw [⟨4,[],fun vs=>Bh (I x5.1),[]⟩,⟨6,[],fun vs=>Bh u3,[]⟩,⟨7,[],fun vs=>Bh (I (List.length a2.2:Int)),[]⟩,⟨8,[],fun vs=>Bh (I (w64 ((List.length a2.2:Int) - 1))),[]⟩] [[],[],[6],[7]] 14 z (by kernel_rfl) (by kernel_rfl) z ?_ ?_
     ·refine An z ?_ ?_
      ·intro w6 hB6
       refine Ar<|⟨_,z,?_⟩
       refine A3 ty3 h1.fst (hC8.keep.then hB6) z z (fun v3 h2=>?_)
       obtain rfl:=Bn h2
       exact Ac<|Ay (Al _ _) z z ⟨z,z⟩
      refine An z ?_ ?_
      ·intro w6 hB6
       refine Ar<|⟨_,z,?_⟩
       exact Ao (hC8.grow hB6) 1 z z Ba z z<|Ac<|Ay (Al _ _) z z ⟨z,z⟩
      refine An z ?_ ?_
      ·intro w6 hB6
       refine AK z z z ?_
       rintro _ _ ⟨rfl,rfl⟩ _
       refine Ar<|⟨_,z,?_⟩
       exact AZ Ax g3 z z<|Ac<|Ay (Al _ _) z z ⟨z,z⟩
      refine An z ?_ ?_
      ·intro w6 hB6
       refine AK z z z ?_
       rintro _ _ ⟨rfl,rfl⟩ _
       refine Ar<|⟨_,z,?_⟩
       exact BN z z z<|Ac<|Ay (Al _ _) z z ⟨z,z⟩
      exact Bp
     intro w7 hB7
     refine At z z z ?_
     rintro _ _ ⟨rfl,rfl⟩
     refine At z z z ?_
     rintro _ _ ⟨rfl,rfl⟩
     refine At z z z ?_
     rintro _ _ ⟨rfl,rfl⟩
     refine At z z z ?_
     rintro _ _ ⟨rfl,rfl⟩
     refine B0 fun hn1 hb1=>have hC9:=hC8.grow hB7;be hr2 fun x6 hr3 hr2=>oe 9 z<|cb B9 z z (c_S_l1In x5.1 0 (w64 ((List.length a2.2:Int) - 1)) x6 hr3) fun w9 hB8=>have hC10:=hC9.grow hB8;Ac<|tk 10 z z (Cm z)<|Bx z z<|Ac<|tm 11 z z z<|BQ (fun hc2=>?_) (fun hc2=>?_)
     ·replace hr2:=AC hr2 hc2
      refine sk 12 z z z z z<|sk 13 z z z z z<|sk 14 z z z z z<|sk 15 z z z z z<|sk 16 z z z z z<|sk 17 z z z z z<|sk 18 z z z z z<|sk 19 z z z z z<|sk 20 z z z z z<|sk 21 z z z z z<|tp 22 z z z z<|dn<|?_
      obtain rfl:=Aa hr2
      exact Ak (l':=[(0,u1),(2,u4),(4,(ptr b1 0)),(7,v1),(8,(I x2)),(40,(.bool true))]) ⟨z,z,z,z,z,z,Ai⟩<|⟨true,z,z,(((Ap hB5).then hB7).then hB8).below,hC10⟩
     replace hr2:=AD hr2 hc2
     refine tn 12 z z z z z<|tn 13 z z z z z<|be hr2 fun x7 hx2 hr2=>tg 14 z z z z (B4 A5 ty75 g4 hx2 z z)<|Aj z z<|AG A5 ty75 g4 hx2 z z z fun b4 o2 h3=>Ac<|tg 15 z z z z (BC AX z z (fun w=>⟨_,AE w⟩) z)<|Aj z z<|fd AX AE z z z z<|Ac<|tn 17 z z z z z<|tg 18 z z z z (CJ Bc g1 z)<|Aj z z<|AZ Bc g1 z z<|Ac<|tg 19 z z z z (C3 z z)<|Aj z z<|BN z z z<|Ac<|oe 16 z<|Aj z z<|A3 ty3 h3.snd hC10.keep z z fun v4 h4=>?_
     obtain rfl:=Bn h4
     refine Ac<|be hr2 fun x8 hr4 hr2=>oe 20 z<|Aj z z<|cb B9 z z (c_S_l1In x7.2 0 (w64 ((List.length a1:Int) - 1)) x8 hr4) fun w10 hB9=>have hC11:=hC10.grow hB9;Ac<|tg 21 z z z z (Cm z)<|Aj z z<|Bx z z<|Ac<|tq 22 z z z z<|dn<|?_
     obtain rfl:=Aa hr2
     exact Ak (l':=[(0,u1),(2,u4),(4,(ptr b1 0)),(7,v1),(8,(I x2)),(40,(.bool (!x8)))]) ⟨z,z,z,z,z,z,Ai⟩<|⟨(!x8),z,z,((((Ap hB5).then hB7).then hB8).then hB9).below,hC11⟩
    rintro _ w4 ⟨x4,rfl,rfl,hB4,hC7⟩
    try dsimp only at hL1
    refine AI z (fun hc3=>?_) (fun hc3=>?_)
    ·replace hL1:=AC hL1 hc3
     exact Bt<|A1<|Be<|Am<|Bb<|Ag z z<|Bj z z z<|Ae z z<|Ac<|Ak (l':=[(0,u1),(2,u4),(4,(ptr b1 0)),(7,v1),(8,(I (w64 (x2+1))))]) ⟨z,z,z,z,z,Ai⟩<|⟨k1,Av _,v1,x1,w64 (x2+1),z,hC7,hL1⟩
    replace hL1:=AD hL1 hc3
    refine AJ<|Am<|A6<|B1 19 z hmix fun w11 hB10=>have hC12:=hC7.grow hB10;tm 0 z z z<|tm 1 z z z<|tm 2 z z z<|be hL1 fun x9 hx3 hL1=>tk 3 z z (B4 A5 ty75 g4 hx3 z z)<|AG A5 ty75 g4 hx3 z z z fun b5 o3 h5=>Ac<|tf 4 AX AE z z z z z<|tf 8 A0 AU z z z z z<|tm 10 z z z<|tm 11 z z z<|be hL1 fun x10 hx4 hL1=>tk 12 z z (B4 A5 ty75 g4 hx4 z z)<|AG A5 ty75 g4 hx4 z z z fun b6 o4 h6=>Ac<|tf 13 AX AE z z z z z<|be hL1 fun x11 hx5 hL1=>be hL1 fun x12 hx6 hL1=>wAS (l':=[(0,u1),(2,u4),(4,(ptr b1 0)),(7,v1),(8,(I x2)),(40,(.bool x4)),(41,u1),(42,u4),(43,(I x2)),(44,(ptr b5 o3)),(45,(ptr b5 (o3+1))),(49,(ptr b1 1)),(51,u4),(52,(I x2)),(53,(ptr b6 o4)),(54,(ptr b6 (o4+0)))]) ⟨z,z,z,z,z,z,z,z,z,z,z,z,z,z,z,z,Ai⟩<|Bw [⟨5,[],fun vs=>Bh (I x9.2),[]⟩,⟨6,[],fun vs=>Ci [] w0 x11,[]⟩,⟨7,[],fun vs=>Ct [] w0 x11,[]⟩,⟨9,[],fun vs=>Bh u3,[]⟩,⟨14,[],fun vs=>Bh (I x10.1),[]⟩,⟨15,[],fun vs=>Ci [] w0 x12,[]⟩,⟨16,[],fun vs=>Ct [] w0 x12,[]⟩] [[],[5],[6],[],[],[9,14],[15]] 2 z (by kernel_rfl) (by kernel_rfl) z ?_ ?_
    ·refine An z ?_ ?_
     ·intro w12 hB11
      refine Ar<|⟨_,z,?_⟩
      refine A3 ty3 h5.snd (hC12.keep.then hB11) z z (fun v5 h7=>?_)
      obtain rfl:=Bn h7
      exact Ac<|Ay (Al _ _) z z ⟨z,z⟩
     refine An z ?_ ?_
     ·intro w12 hB11
      refine AK z z z ?_
      rintro _ _ ⟨rfl,rfl⟩ _
      refine Ar<|⟨_,z,?_⟩
      exact AG Bc ty71 g1 hx5 z z z fun b7 o5 h8=>Ac<|Ay (Al _ _) z z ⟨z,_,_,z,h8⟩
     refine An z ?_ ?_
     ·intro w12 hB11
      refine AK z z z ?_
      rintro _ _ ⟨rfl,b7,o5,rfl,h8⟩ _
      refine Ar<|⟨_,z,?_⟩
      exact A3 ty71 h8 (hC12.keep.then hB11) z z fun v8 h11=>Ac<|Ay (Al _ _) z z ⟨z,h11⟩
     refine An z ?_ ?_
     ·intro w12 hB11
      refine Ar<|⟨_,z,?_⟩
      exact Ao (hC12.grow hB11) 1 z z Ba z z<|Ac<|Ay (Al _ _) z z ⟨z,z⟩
     refine An z ?_ ?_
     ·intro w12 hB11
      refine Ar<|⟨_,z,?_⟩
      refine A3 ty3 h6.fst (hC12.keep.then hB11) z z (fun v9 h12=>?_)
      obtain rfl:=Bn h12
      exact Ac<|Ay (Al _ _) z z ⟨z,z⟩
     refine An z ?_ ?_
     ·intro w12 hB11
      refine AK z z z ?_
      rintro _ _ ⟨rfl,rfl⟩ _
      refine AK z z z ?_
      rintro _ _ ⟨rfl,rfl⟩ _
      refine Ar<|⟨_,z,?_⟩
      exact AG Ax ty84 g3 hx6 z z z fun b8 o6 h13=>Ac<|Ay (Al _ _) z z ⟨z,_,_,z,h13⟩
     refine An z ?_ ?_
     ·intro w12 hB11
      refine AK z z z ?_
      rintro _ _ ⟨rfl,b8,o6,rfl,h13⟩ _
      refine Ar<|⟨_,z,?_⟩
      exact A3 ty84 h13 (hC12.keep.then hB11) z z fun v12 h16=>Ac<|Ay (Al _ _) z z ⟨z,h16⟩
     exact Bp
    intro w13 hB12
    refine At z z z ?_
    rintro _ _ ⟨rfl,rfl⟩
    refine At z z z ?_
    rintro _ _ ⟨rfl,b7,o5,rfl,h8⟩
    refine At z z z ?_
    rintro v8 _ ⟨rfl,h11⟩
    obtain ⟨v7,rfl,h10⟩:=Cz h11
    refine At z z z ?_
    rintro _ _ ⟨rfl,rfl⟩
    refine At z z z ?_
    rintro _ _ ⟨rfl,rfl⟩
    refine At z z z ?_
    rintro _ _ ⟨rfl,b8,o6,rfl,h13⟩
    refine At z z z ?_
    rintro v12 _ ⟨rfl,h16⟩
    obtain ⟨v11,rfl,h15⟩:=Cc h16
    refine B0 fun hn2 hb2=>have hC13:=hC12.grow hB12;be hL1 fun x13 hr5 hL1=>oe 17 z<|A7 Tryz.call56 z z (c_S_l30Passed x11 v7 (h10.now hC13.keep) x12 v11 (h15.now hC13.keep) x13 hr5)<|?_
    rintro v13 w14 ⟨hB13,F1,hv3,hn3,hb3⟩
    have hC14:=hC13.push hB13 (A:=Ab v13 x13) hv3 hn3 hb3
    refine Ac<|ta 18 z z z<|dn<|Am<|Ad<|Ae z z<|Ac<|be hL1 fun r3 hr6 hL1=>Bd (fun l w=>∃v15:Value,∃x16:(List Int),x16=r3∧l=[(0,u1),(2,u4),(4,(ptr b1 0)),(7,v15),(8,(I x2))]∧Ctx [] w0 w [Ab v15 (x16:(List Int)),Af b1 [u2,u3]]) ?_ ?_
    ·refine AH<|wS (l':=[(0,u1),(2,u4),(4,(ptr b1 0)),(7,v1),(8,(I x2)),(9,v13),(10,(I 0))]) ⟨z,z,z,z,z,z,z,Ai⟩<|Bu (fun k l w=>∃v14:Value,∃x14:(List Int),∃x15:Int,l=[(0,u1),(2,u4),(4,(ptr b1 0)),(7,v14),(8,(I x2)),(9,v13),(10,(I x15))]∧Ctx [] w0 w [Ab v13 (x13:(List Int)),Ab v14 (x14:(List Int)),Af b1 [u2,u3]]∧S.Disclosed_l2 x13 k x14 x15=some r3) FUEL ⟨v1,x1,0,z,hC14,hr6⟩<|?_
     clear hr6
     rintro k2 _ w15 ⟨v14,x14,x15,rfl,hC15,hL2⟩
     cases k2 with
     | zero=>rw [S.Disclosed_l2] at hL2; cases hL2
     | succ k2 =>
      rw [S.Disclosed_l2] at hL2
      refine A6<|Ad<|Ag z z<|Ag z z<|AZ Ah (hC15.ro 0 z) z z<|Bo z z z<|Ac<|AI z (fun hc4=>?_) (fun hc4=>?_)
      ·replace hL2:=AC hL2 hc4
       refine AJ<|Am<|A6<|AH<|Bb<|Ag z z<|Ag z z<|Ag z z<|be hL2 fun x17 hx7 hL2=>AG Ah ty3 (hC15.ro 0 z) hx7 z z z fun b9 o7 h17=>A3 ty3 h17 (Aq _ _) z z fun v16 h18=>?_
       obtain rfl:=Bn h18
       refine be hL2 fun x18 hr7 hL2=>have hC16:=hC15.f1;?_
       obtain ⟨Fs1,hH1,hn4,hF1,hO1,hb4⟩:=AW (As:=[Ab v13 (x13:(List Int)),Af b1 [u2,u3]]) [Ab v14 (x14:(List Int))] hC16
       refine A7 C2 z z (c_S_l3Put_own x14 v14 x17 hH1 hn4 x18 hr7) ?_
       rintro v17 w16 ⟨_,rfl,hq3⟩
       have hC17:Ctx [] w0 w16 [Ab v17 (x18:(List Int)),Ab v13 (x13:(List Int)),Af b1 [u2,u3]]:=hb4 _ _ hq3
       exact Ae z z<|Ac<|AM<|Am<|Bb<|Ag z z<|Bj z z z<|Ae z z<|Ac<|have hC18:=hC17.f2;have hC19:=hC18.f1;have hC20:=hC19.f2;Ak (l':=[(0,u1),(2,u4),(4,(ptr b1 0)),(7,v17),(8,(I x2)),(9,v13),(10,(I (w64 (x15+1))))]) ⟨z,z,z,z,z,z,z,Ai⟩<|⟨k2,Av _,v17,x18,w64 (x15+1),z,hC20,hL2⟩
      replace hL2:=AD hL2 hc4
      refine Bt (A1 (A1 (Be ?_)))
      obtain rfl:=Aa hL2
      have hC21:=hC15.f2
      have hC22:=hC21.f2
      have hC23:=hC22.h2
      exact Ak (l':=[(0,u1),(2,u4),(4,(ptr b1 0)),(7,v14),(8,(I x2))]) ⟨z,z,z,z,z,Ai⟩<|⟨v14,x14,z,z,hC23⟩
    rintro l4 _ w17 hs4 ⟨v15,x16,rfl,rfl,hC24⟩
    try dsimp only at hL1
    refine AM<|AL hs4<|?_
    clear hs4
    exact Bb<|Ag z z<|Bj z z z<|Ae z z<|Ac<|Ak (l':=[(0,u1),(2,u4),(4,(ptr b1 0)),(7,v15),(8,(I (w64 (x2+1))))]) ⟨z,z,z,z,z,Ai⟩<|⟨k1,Av _,v15,x16,w64 (x2+1),z,hC24,hL1⟩
   replace hL1:=AD hL1 hc1
   refine Bt (A1 (A1 (Be ?_)))
   obtain rfl:=Aa hL1
   have hC25:=hC6.h1
   exact Ak (l':=[(7,v1)]) ⟨z,Ai⟩<|⟨v1,x1,z,z,hC25⟩
 rintro l5 _ w18 hs5 ⟨v2,x3,rfl,rfl,hC26⟩
 try dsimp only at hF
 refine AL hs5 ?_
 clear hs5
 refine Ad<|Ag z z<|Ae z z<|Ac<|AP<|?_
 obtain rfl:=Aa hF
 exact A8 z z<|⟨_,z,Co hC26 0 z⟩
theorem c_S_IsSchema {w0:World} (a1:(List Int)) (u1:Value) (g1:RO [] w0 u1 a1) (rr:Bool) (hF:S.IsSchema a1=some rr) :
 Calls Tryz.prog 111 [u1].toArray w0 fun e w'=>∃v,e=.returned v∧Res w0 rr v w':=by
 refine Au Tryz.func111 z z ?_
 have hC0:=AA w0
 unfold S.IsSchema at hF
 refine Ad<|Ae z z<|Ac<|A6<|Ad<|Ae z z<|Ac<|be hF fun r1 hr1 hF=>Bd (fun l w=>.inl ()=r1∧l=[(0,u1)]∧Below w0.heap.size w0 w∧Ctx [] w0 w []) ?_ ?_
 ·refine AH<|wS (l':=[(0,u1),(3,(I 0))]) ⟨z,z,Ai⟩<|Bu (fun k l w=>∃x1:Int,l=[(0,u1),(3,(I x1))]∧Below w0.heap.size w0 w∧Ctx [] w0 w []∧S.IsSchema_l1 a1 k x1=some r1) FUEL ⟨0,z,(Al _ _),hC0,hr1⟩<|?_
  clear hr1
  rintro k1 _ w1 ⟨x1,rfl,hB1,hC1,hL1⟩
  cases k1 with
  | zero=>rw [S.IsSchema_l1] at hL1; cases hL1
  | succ k1 =>
   rw [S.IsSchema_l1] at hL1
   refine A6<|Ad<|Ag z z<|Ag z z<|AZ Ah g1 z z<|Bo z z z<|Ac<|AI z (fun hc1=>?_) (fun hc1=>?_)
   ·replace hL1:=AC hL1 hc1
    refine AJ<|Am<|A6<|AH<|Ad<|Ag z z<|Ag z z<|be hL1 fun x2 hx1 hL1=>AG Ah ty3 g1 hx1 z z z fun b1 o1 h1=>A3 ty3 h1 hC1.keep z z fun v1 h2=>?_
    obtain rfl:=Bn h2
    refine be hL1 fun x3 hr2 hL1=>cb B9 z z (c_S_l1In x2 1 3 x3 hr2) fun w2 hB2=>have hC2:=hC1.grow hB2;Bx z z<|Ac<|AI z (fun hc2=>?_) (fun hc2=>?_)
    ·replace hL1:=AC hL1 hc2
     refine Ad<|Ae z z<|Ac<|AP<|Bk<|Az<|Az<|Bk<|Az<|Az<|?_
     obtain rfl:=Aa hL1
     dsimp only at hF
     obtain rfl:=Aa hF
     exact A8 z z<|⟨_,z,AR hC2 _⟩
    replace hL1:=AD hL1 hc2
    exact AJ<|AM<|Am<|Bb<|Ag z z<|Bj z z z<|Ae z z<|Ac<|Ak (l':=[(0,u1),(3,(I (w64 (x1+1))))]) ⟨z,z,Ai⟩<|⟨k1,Av _,w64 (x1+1),z,((Ap hB1).then hB2).below,hC2,hL1⟩
   replace hL1:=AD hL1 hc1
   refine Bt (A1 (A1 (Be ?_)))
   obtain rfl:=Aa hL1
   exact Ak (l':=[(0,u1)]) ⟨z,Ai⟩<|⟨z,z,(Ap hB1).below,hC1⟩
 rintro l2 _ w3 hs2 ⟨rfl,rfl,hB3,hC3⟩
 try dsimp only at hF
 refine AL hs2 ?_
 clear hs2
 refine Ad<|Ag z z<|AZ Ah g1 z z<|be hF fun x4 hr3 hF=>cb B9 z z (c_S_l1In (List.length a1:Int) 1 3 x4 hr3) fun w4 hB4=>have hC4:=hC3.grow hB4;Ae z z<|Ac<|AP<|?_
 obtain rfl:=Aa hF
 exact A8 z z<|⟨_,z,AR hC4 _⟩
theorem c_S_IsMethod {w0:World} (a1:(List Int)) (u1:Value) (g1:RO [] w0 u1 a1) (a2:(Int × (List Int) × Int × Int × Int)) (u2:Value) (g2:RO [] w0 u2 a2.2.1) (rr:Bool) (hF:S.IsMethod a1 a2=some rr) :
 Calls Tryz.prog 110 [u1,(.agg #[(I a2.1),u2,(I a2.2.2.1),(I a2.2.2.2.1),(I a2.2.2.2.2)])].toArray w0 fun e w'=>∃v,e=.returned v∧Res w0 rr v w':=by
 refine Au Tryz.func110 z z ?_
 have hC0:=AA w0
 unfold S.IsMethod at hF
 refine Ad<|Bv (cs:=[(I a2.1),u2,(I a2.2.2.1),(I a2.2.2.2.1),(I a2.2.2.2.2)]) hC0 z z z fun b1 w1 hC1 hB1 hN1=>Ae z z<|Ac<|A6<|be hF fun r1 hr1 hF=>BA (fun l w=>∃x1:Bool,x1=r1∧l=[(0,u1),(3,(ptr b1 0)),(35,(.bool x1))]∧Below w1.heap.size w1 w∧Ctx [] w0 w [Af b1 [(I a2.1),u2,(I a2.2.2.1),(I a2.2.2.2.1),(I a2.2.2.2.2)]]) ?_ ?_
 ·refine Bb<|Ag z z<|be hr1 fun x2 hr2 hr1=>cb Cu z z (c_S_IsSchema a1 u1 (g1.now hC1.keep) x2 hr2) fun w3 hB3=>have hC3:=hC1.grow hB3;Bx z z<|Ag z z<|Br (fun hc1=>?_) (fun hc1=>?_)
  ·replace hr1:=AC hr1 hc1
   refine gs z z z z<|gs z z z z<|gs z z z z<|gs z z z z<|gs z z z z<|gs z z z z<|gs z z z z<|AV z z z<|Ag z z<|gs z z z z<|gs z z z z<|gs z z z z<|gs z z z z<|AV z z z<|Ag z z<|gs z z z z<|gs z z z z<|gs z z z z<|gs z z z z<|AV z z z<|Ag z z<|gs z z z z<|gs z z z z<|gs z z z z<|gs z z z z<|AV z z z<|Ac<|?_
   obtain rfl:=Aa hr1
   exact Ak (l':=[(0,u1),(3,(ptr b1 0)),(35,(.bool true))]) ⟨z,z,z,Ai⟩<|⟨true,z,z,(Ap hB3).below,hC3⟩
  replace hr1:=AD hr1 hc1
  refine Aj z z<|fd AN AE z z z z<|Aj z z<|Ao hC3 0 z z Bl z z<|Aj z z<|Ag z z<|Aj z z<|AZ Ah g1 z z<|Aj z z<|BN z z z<|be hr1 fun x3 hr3 hr1=>Aj z z<|cb B9 z z (c_S_l1In a2.1 0 (w64 ((List.length a1:Int) - 1)) x3 hr3) fun w4 hB4=>have hC4:=hC3.grow hB4;Aj z z<|Bx z z<|AS z z z<|Ag z z<|Br (fun hc2=>?_) (fun hc2=>?_)
  ·replace hr1:=AC hr1 hc2
   refine gs z z z z<|gs z z z z<|gs z z z z<|gs z z z z<|AV z z z<|Ag z z<|gs z z z z<|gs z z z z<|gs z z z z<|gs z z z z<|AV z z z<|Ag z z<|gs z z z z<|gs z z z z<|gs z z z z<|gs z z z z<|AV z z z<|Ac<|?_
   obtain rfl:=Aa hr1
   exact Ak (l':=[(0,u1),(3,(ptr b1 0)),(35,(.bool true))]) ⟨z,z,z,Ai⟩<|⟨true,z,z,((Ap hB3).then hB4).below,hC4⟩
  replace hr1:=AD hr1 hc2
  refine Aj z z<|fd AN AE z z z z<|Aj z z<|Ao hC4 0 z z Bl z z<|be hr1 fun x4 hr4 hr1=>Aj z z<|cb B9 z z (c_S_l1In a2.2.2.1 0 9 x4 hr4) fun w5 hB5=>have hC5:=hC4.grow hB5;Aj z z<|Bx z z<|AS z z z<|Ag z z<|Br (fun hc3=>?_) (fun hc3=>?_)
  ·replace hr1:=AC hr1 hc3
   refine gs z z z z<|gs z z z z<|gs z z z z<|gs z z z z<|AV z z z<|Ag z z<|gs z z z z<|gs z z z z<|gs z z z z<|gs z z z z<|AV z z z<|Ac<|?_
   obtain rfl:=Aa hr1
   exact Ak (l':=[(0,u1),(3,(ptr b1 0)),(35,(.bool true))]) ⟨z,z,z,Ai⟩<|⟨true,z,z,(((Ap hB3).then hB4).then hB5).below,hC5⟩
  replace hr1:=AD hr1 hc3
  refine Aj z z<|fd AN AE z z z z<|Aj z z<|Ao hC5 0 z z Bl z z<|be hr1 fun x5 hr5 hr1=>Aj z z<|cb B9 z z (c_S_l1In a2.2.2.2.1 0 99 x5 hr5) fun w6 hB6=>have hC6:=hC5.grow hB6;Aj z z<|Bx z z<|AS z z z<|Ag z z<|Br (fun hc4=>?_) (fun hc4=>?_)
  ·replace hr1:=AC hr1 hc4
   refine gs z z z z<|gs z z z z<|gs z z z z<|gs z z z z<|AV z z z<|Ac<|?_
   obtain rfl:=Aa hr1
   exact Ak (l':=[(0,u1),(3,(ptr b1 0)),(35,(.bool true))]) ⟨z,z,z,Ai⟩<|⟨true,z,z,((((Ap hB3).then hB4).then hB5).then hB6).below,hC6⟩
  replace hr1:=AD hr1 hc4
  refine Aj z z<|fd AN AE z z z z<|Aj z z<|Ao hC6 0 z z Bl z z<|be hr1 fun x6 hr6 hr1=>Aj z z<|cb B9 z z (c_S_l1In a2.2.2.2.2 1 99 x6 hr6) fun w7 hB7=>have hC7:=hC6.grow hB7;Aj z z<|Bx z z<|AS z z z<|Ac<|?_
  obtain rfl:=Aa hr1
  exact Ak (l':=[(0,u1),(3,(ptr b1 0)),(35,(.bool (!x6)))]) ⟨z,z,z,Ai⟩<|⟨(!x6),z,z,(((((Ap hB3).then hB4).then hB5).then hB6).then hB7).below,hC7⟩
 rintro _ w2 ⟨x1,rfl,rfl,hB2,hC2⟩
 try dsimp only at hF
 refine AI z (fun hc5=>?_) (fun hc5=>?_)
 ·replace hF:=AC hF hc5
  refine Ad<|Ae z z<|Ac<|AP<|Az<|?_
  obtain rfl:=Aa hF
  exact A8 z z<|⟨_,z,AR hC2 _⟩
 replace hF:=AD hF hc5
 refine AJ<|Am<|A6<|Ad<|Ae z z<|Ac<|be hF fun r2 hr7 hF=>Bd (fun l w=>.inl ()=r2∧l=[]∧Below w2.heap.size w2 w∧Ctx [] w0 w []) ?_ ?_
 ·refine AH<|wS (l':=[(0,u1),(3,(ptr b1 0)),(5,(I 0))]) ⟨z,z,z,Ai⟩<|Bu (fun k l w=>∃x7:Int,l=[(0,u1),(3,(ptr b1 0)),(5,(I x7))]∧Below w2.heap.size w2 w∧Ctx [] w0 w [Af b1 [(I a2.1),u2,(I a2.2.2.1),(I a2.2.2.2.1),(I a2.2.2.2.2)]]∧S.IsMethod_l1 a2 a1 k x7=some r2) FUEL ⟨0,z,(Al _ _),hC2,hr7⟩<|?_
  clear hr7
  rintro k1 _ w9 ⟨x7,rfl,hB8,hC8,hL1⟩
  cases k1 with
  | zero=>rw [S.IsMethod_l1] at hL1; cases hL1
  | succ k1 =>
   rw [S.IsMethod_l1] at hL1
   refine A6<|Ad<|Ag z z<|fd AN Aw z z z z<|Ao hC8 0 z z AQ z z<|AZ Ah g2 z z<|Bo z z z<|Ac<|AI z (fun hc6=>?_) (fun hc6=>?_)
   ·replace hL1:=AC hL1 hc6
    refine AJ<|Am<|A6<|AH<|be hL1 fun r3 hr8 hL1=>BA (fun l w=>∃x8:Bool,x8=r3∧l=[(0,u1),(3,(ptr b1 0)),(5,(I x7)),(73,(.bool x8))]∧Below w9.heap.size w9 w∧Ctx [] w0 w [Af b1 [(I a2.1),u2,(I a2.2.2.1),(I a2.2.2.2.1),(I a2.2.2.2.2)]]) ?_ ?_
    ·refine B1 31 z hmix fun w11 hB10=>have hC10:=hC8.grow hB10;tf 0 AN Aw z z z z z<|tm 2 z z z<|tm 5 z z z<|tf 6 AN AE z z z z z<|be hr8 fun x9 hx1 hr8=>be hr8 fun x10 hx2 hr8=>wAS (l':=[(0,u1),(3,(ptr b1 0)),(5,(I x7)),(36,(I x7)),(37,(ptr b1 1)),(38,u2),(39,(I (List.length a2.2.1:Int))),(40,(.bool (decide (x7 < (List.length a2.2.1:Int))))),(43,(ptr b1 1)),(45,(I x7)),(48,u1),(49,(ptr b1 0))]) ⟨z,z,z,z,z,z,z,z,z,z,z,z,Ai⟩<|Bw [⟨1,[],fun vs=>Bh u2,[]⟩,⟨3,[],fun vs=>Ci [] w0 x9,[]⟩,⟨4,[],fun vs=>Bh (I x9),[]⟩,⟨7,[],fun vs=>Bh (I a2.1),[]⟩,⟨8,[],fun vs=>Ci [] w0 x10,[]⟩,⟨9,[],fun vs=>Bh (I x10),[]⟩,⟨10,[],fun vs=>Bh (I (w64 (x10 - 1))),[]⟩] [[],[1],[3],[],[7],[8],[9]] 20 z (by kernel_rfl) (by kernel_rfl) z ?_ ?_
     ·refine An z ?_ ?_
      ·intro w12 hB11
       refine Ar<|⟨_,z,?_⟩
       exact Ao (hC10.grow hB11) 0 z z AQ z z<|Ac<|Ay (Al _ _) z z ⟨z,z⟩
      refine An z ?_ ?_
      ·intro w12 hB11
       refine AK z z z ?_
       rintro _ _ ⟨rfl,rfl⟩ _
       refine Ar<|⟨_,z,?_⟩
       exact AG Ah ty3 g2 hx1 z z z fun b2 o1 h1=>Ac<|Ay (Al _ _) z z ⟨z,_,_,z,h1⟩
      refine An z ?_ ?_
      ·intro w12 hB11
       refine AK z z z ?_
       rintro _ _ ⟨rfl,b2,o1,rfl,h1⟩ _
       refine Ar<|⟨_,z,?_⟩
       refine A3 ty3 h1 (hC10.keep.then hB11) z z (fun v1 h2=>?_)
       obtain rfl:=Bn h2
       exact Ac<|Ay (Al _ _) z z ⟨z,z⟩
      refine An z ?_ ?_
      ·intro w12 hB11
       refine Ar<|⟨_,z,?_⟩
       exact Ao (hC10.grow hB11) 0 z z Bl z z<|Ac<|Ay (Al _ _) z z ⟨z,z⟩
      refine An z ?_ ?_
      ·intro w12 hB11
       refine AK z z z ?_
       rintro _ _ ⟨rfl,rfl⟩ _
       refine Ar<|⟨_,z,?_⟩
       exact AG Ah ty3 g1 hx2 z z z fun b3 o2 h3=>Ac<|Ay (Al _ _) z z ⟨z,_,_,z,h3⟩
      refine An z ?_ ?_
      ·intro w12 hB11
       refine AK z z z ?_
       rintro _ _ ⟨rfl,b3,o2,rfl,h3⟩ _
       refine Ar<|⟨_,z,?_⟩
       refine A3 ty3 h3 (hC10.keep.then hB11) z z (fun v2 h4=>?_)
       obtain rfl:=Bn h4
       exact Ac<|Ay (Al _ _) z z ⟨z,z⟩
      refine An z ?_ ?_
      ·intro w12 hB11
       refine AK z z z ?_
       rintro _ _ ⟨rfl,rfl⟩ _
       refine Ar<|⟨_,z,?_⟩
       exact BN z z z<|Ac<|Ay (Al _ _) z z ⟨z,z⟩
      exact Bp
     intro w13 hB12
     refine At z z z ?_
     rintro _ _ ⟨rfl,rfl⟩
     refine At z z z ?_
     rintro _ _ ⟨rfl,b2,o1,rfl,h1⟩
     refine At z z z ?_
     rintro _ _ ⟨rfl,rfl⟩
     refine At z z z ?_
     rintro _ _ ⟨rfl,rfl⟩
     refine At z z z ?_
     rintro _ _ ⟨rfl,b3,o2,rfl,h3⟩
     refine At z z z ?_
     rintro _ _ ⟨rfl,rfl⟩
     refine At z z z ?_
     rintro _ _ ⟨rfl,rfl⟩
     refine B0 fun hn1 hb1=>have hC11:=hC10.grow hB12;be hr8 fun x11 hr9 hr8=>oe 11 z<|cb B9 z z (c_S_l1In x9 0 (w64 (x10 - 1)) x11 hr9) fun w14 hB13=>have hC12:=hC11.grow hB13;Ac<|tk 12 z z (Cm z)<|Bx z z<|Ac<|tm 13 z z z<|BQ (fun hc7=>?_) (fun hc7=>?_)
     ·replace hr8:=AC hr8 hc7
      refine sk 14 z z z z z<|sk 15 z z z z z<|sk 16 z z z z z<|sk 17 z z z z z<|sk 18 z z z z z<|sk 19 z z z z z<|sk 20 z z z z z<|sk 21 z z z z z<|sk 22 z z z z z<|sk 23 z z z z z<|sk 24 z z z z z<|sk 25 z z z z z<|sk 26 z z z z z<|sk 27 z z z z z<|sk 28 z z z z z<|sk 29 z z z z z<|tp 30 z z z z<|dn<|?_
      obtain rfl:=Aa hr8
      exact Ak (l':=[(0,u1),(3,(ptr b1 0)),(5,(I x7)),(73,(.bool true))]) ⟨z,z,z,z,Ai⟩<|⟨true,z,z,(((Ap hB10).then hB12).then hB13).below,hC12⟩
     replace hr8:=AD hr8 hc7
     refine tn 14 z z z z z<|tg 15 z z z z (fl_gtr z z)<|Aj z z<|C8 z z z<|Ac<|tn 16 z z z z z<|BQ (fun hc8=>?_) (fun hc8=>?_)
     ·replace hr8:=AC hr8 hc8
      refine tg 17 z z z z (BC AN z z (fun w=>⟨_,Aw w⟩) z)<|Aj z z<|fd AN Aw z z z z<|Ac<|tn 19 z z z z z<|tg 22 z z z z (BC AN z z (fun w=>⟨_,Aw w⟩) z)<|Aj z z<|fd AN Aw z z z z<|Ac<|tn 24 z z z z z<|tg 25 z z z z (C3 z z)<|Aj z z<|BN z z z<|Ac<|be hr8 fun x12 hx3 hr8=>be hr8 fun x13 hx4 hr8=>wAS (l':=[(0,u1),(3,(ptr b1 0)),(5,(I x7)),(36,(I x7)),(37,(ptr b1 1)),(38,u2),(39,(I (List.length a2.2.1:Int))),(40,(.bool (decide (x7 < (List.length a2.2.1:Int))))),(43,(ptr b1 1)),(44,u2),(45,(I x7)),(46,(ptr b2 o1)),(47,(I x9)),(48,u1),(49,(ptr b1 0)),(50,(I a2.1)),(51,(ptr b3 o2)),(52,(I x10)),(53,(I (w64 (x10 - 1)))),(54,(.bool x11)),(55,(.bool (!x11))),(56,(.bool false)),(57,(I x7)),(58,(.bool (decide (0 < x7)))),(59,(.bool true)),(60,(ptr b1 1)),(62,(I x7)),(65,(ptr b1 1)),(67,(I x7)),(68,(I (w64 (x7 - 1))))]) ⟨z,z,z,z,z,z,z,z,z,z,z,z,z,z,z,z,z,z,z,z,z,z,z,z,z,z,z,z,z,z,Ai⟩<|Bw [⟨18,[],fun vs=>Bh u2,[]⟩,⟨20,[],fun vs=>Ci [] w0 x12,[]⟩,⟨21,[],fun vs=>Bh (I x12),[]⟩,⟨23,[],fun vs=>Bh u2,[]⟩,⟨26,[],fun vs=>Ci [] w0 x13,[]⟩,⟨27,[],fun vs=>Bh (I x13),[]⟩] [[],[18],[20],[],[23],[26]] 3 z (by kernel_rfl) (by kernel_rfl) z ?_ ?_
      ·refine An z ?_ ?_
       ·intro w15 hB14
        refine Ar<|⟨_,z,?_⟩
        exact Aj z z<|Ao (hC12.grow hB14) 0 z z AQ z z<|Ac<|Ay (Al _ _) z z ⟨z,z⟩
       refine An z ?_ ?_
       ·intro w15 hB14
        refine AK z z z ?_
        rintro _ _ ⟨rfl,rfl⟩ _
        refine Ar<|⟨_,z,?_⟩
        exact Aj z z<|AG Ah ty3 g2 hx3 z z z fun b4 o3 h5=>Ac<|Ay (Al _ _) z z ⟨z,_,_,z,h5⟩
       refine An z ?_ ?_
       ·intro w15 hB14
        refine AK z z z ?_
        rintro _ _ ⟨rfl,b4,o3,rfl,h5⟩ _
        refine Ar<|⟨_,z,?_⟩
        refine Aj z z<|A3 ty3 h5 (hC12.keep.then hB14) z z fun v3 h6=>?_
        obtain rfl:=Bn h6
        exact Ac<|Ay (Al _ _) z z ⟨z,z⟩
       refine An z ?_ ?_
       ·intro w15 hB14
        refine Ar<|⟨_,z,?_⟩
        exact Aj z z<|Ao (hC12.grow hB14) 0 z z AQ z z<|Ac<|Ay (Al _ _) z z ⟨z,z⟩
       refine An z ?_ ?_
       ·intro w15 hB14
        refine AK z z z ?_
        rintro _ _ ⟨rfl,rfl⟩ _
        refine Ar<|⟨_,z,?_⟩
        exact Aj z z<|AG Ah ty3 g2 hx4 z z z fun b5 o4 h7=>Ac<|Ay (Al _ _) z z ⟨z,_,_,z,h7⟩
       refine An z ?_ ?_
       ·intro w15 hB14
        refine AK z z z ?_
        rintro _ _ ⟨rfl,b5,o4,rfl,h7⟩ _
        refine Ar<|⟨_,z,?_⟩
        refine Aj z z<|A3 ty3 h7 (hC12.keep.then hB14) z z fun v4 h8=>?_
        obtain rfl:=Bn h8
        exact Ac<|Ay (Al _ _) z z ⟨z,z⟩
       exact Bp
      intro w16 hB15
      refine At z z z ?_
      rintro _ _ ⟨rfl,rfl⟩
      refine At z z z ?_
      rintro _ _ ⟨rfl,b4,o3,rfl,h5⟩
      refine At z z z ?_
      rintro _ _ ⟨rfl,rfl⟩
      refine At z z z ?_
      rintro _ _ ⟨rfl,rfl⟩
      refine At z z z ?_
      rintro _ _ ⟨rfl,b5,o4,rfl,h7⟩
      refine At z z z ?_
      rintro _ _ ⟨rfl,rfl⟩
      refine B0 fun hn2 hb2=>have hC13:=hC12.grow hB15;tg 28 z z z z (fl_leq z z)<|Aj z z<|C7 z z z<|Ac<|tg 29 z z z z (fl_pick_t z z)<|Aj z z<|AV z z z<|Ac<|tq 30 z z z z<|dn<|?_
      obtain rfl:=Aa hr8
      exact Ak (l':=[(0,u1),(3,(ptr b1 0)),(5,(I x7)),(73,(.bool (decide (x12 ≤ x13))))]) ⟨z,z,z,z,Ai⟩<|⟨(decide (x12 ≤ x13)),z,z,((((Ap hB10).then hB12).then hB13).then hB15).below,hC13⟩
     replace hr8:=AD hr8 hc8
     refine sk 17 z z z z z<|sk 18 z z z z z<|sk 19 z z z z z<|sk 20 z z z z z<|sk 21 z z z z z<|sk 22 z z z z z<|sk 23 z z z z z<|sk 24 z z z z z<|sk 25 z z z z z<|sk 26 z z z z z<|sk 27 z z z z z<|sk 28 z z z z z<|tg 29 z z z z (fl_pick_f z z)<|Aj z z<|AS z z z<|Ac<|tq 30 z z z z<|dn<|?_
     obtain rfl:=Aa hr8
     exact Ak (l':=[(0,u1),(3,(ptr b1 0)),(5,(I x7)),(73,(.bool false))]) ⟨z,z,z,z,Ai⟩<|⟨false,z,z,(((Ap hB10).then hB12).then hB13).below,hC12⟩
    rintro _ w10 ⟨x8,rfl,rfl,hB9,hC9⟩
    try dsimp only at hL1
    refine AI z (fun hc9=>?_) (fun hc9=>?_)
    ·replace hL1:=AC hL1 hc9
     refine Ad<|Ae z z<|Ac<|AP<|Bk<|Az<|Az<|Bk<|Az<|Az<|?_
     obtain rfl:=Aa hL1
     dsimp only at hF
     obtain rfl:=Aa hF
     exact A8 z z<|⟨_,z,AR hC9 _⟩
    replace hL1:=AD hL1 hc9
    exact AJ<|AM<|Am<|Bb<|Ag z z<|Bj z z z<|Ae z z<|Ac<|Ak (l':=[(0,u1),(3,(ptr b1 0)),(5,(I (w64 (x7+1))))]) ⟨z,z,z,Ai⟩<|⟨k1,Av _,w64 (x7+1),z,((Ap hB8).then hB9).below,hC9,hL1⟩
   replace hL1:=AD hL1 hc6
   refine Bt (A1 (A1 (Be ?_)))
   obtain rfl:=Aa hL1
   have hC14:=hC8.h0
   exact Ak (l':=[]) Ai<|⟨z,z,(Ap hB8).below,hC14⟩
 rintro l4 _ w17 hs4 ⟨rfl,rfl,hB16,hC15⟩
 try dsimp only at hF
 refine AL hs4 ?_
 clear hs4
 refine Ad<|Ae z z<|Ac<|AP<|?_
 obtain rfl:=Aa hF
 exact A8 z z<|⟨_,z,AR hC15 _⟩
theorem c_S_AreMethods {w0:World} (a1:(List Int)) (u1:Value) (g1:RO [] w0 u1 a1) (a2:(List (Int × (List Int) × Int × Int × Int))) (u2:Value) (g2:RO [] w0 u2 a2) (rr:Bool) (hF:S.AreMethods a1 a2=some rr) :
 Calls Tryz.prog 89 [u1,u2].toArray w0 fun e w'=>∃v,e=.returned v∧Res w0 rr v w':=by
 refine Au Tryz.func89 z z ?_
 have hC0:=AA w0
 unfold S.AreMethods at hF
 refine Ad<|Ae z z<|Ac<|A6<|Ad<|Ae z z<|Ac<|be hF fun r1 hr1 hF=>Bd (fun l w=>.inl ()=r1∧l=[(0,u1),(1,u2)]∧Below w0.heap.size w0 w∧Ctx [] w0 w []) ?_ ?_
 ·refine AH<|wS (l':=[(0,u1),(1,u2),(5,(I 0))]) ⟨z,z,z,Ai⟩<|Bu (fun k l w=>∃x1:Int,l=[(0,u1),(1,u2),(5,(I x1))]∧Below w0.heap.size w0 w∧Ctx [] w0 w []∧S.AreMethods_l1 a2 a1 k x1=some r1) FUEL ⟨0,z,(Al _ _),hC0,hr1⟩<|?_
  clear hr1
  rintro k1 _ w1 ⟨x1,rfl,hB1,hC1,hL1⟩
  cases k1 with
  | zero=>rw [S.AreMethods_l1] at hL1; cases hL1
  | succ k1 =>
   rw [S.AreMethods_l1] at hL1
   refine A6<|Ad<|Ag z z<|Ag z z<|AZ Bc g2 z z<|Bo z z z<|Ac<|AI z (fun hc1=>?_) (fun hc1=>?_)
   ·replace hL1:=AC hL1 hc1
    refine AJ<|Am<|A6<|AH<|Ad<|Ag z z<|Ag z z<|Ag z z<|be hL1 fun x2 hx1 hL1=>AG Bc ty71 g2 hx1 z z z fun b1 o1 h1=>A3 ty71 h1 hC1.keep z z fun v1 h2=>?_
    obtain ⟨v2,rfl,h3⟩:=Cz h2
    refine be hL1 fun x3 hr2 hL1=>cb Tryz.call110 z z (c_S_IsMethod a1 u1 (g1.now hC1.keep) x2 v2 (h3.now hC1.keep) x3 hr2) fun w2 hB2=>have hC2:=hC1.grow hB2;Bx z z<|Ac<|AI z (fun hc2=>?_) (fun hc2=>?_)
    ·replace hL1:=AC hL1 hc2
     refine Ad<|Ae z z<|Ac<|AP<|Bk<|Az<|Az<|Bk<|Az<|Az<|?_
     obtain rfl:=Aa hL1
     dsimp only at hF
     obtain rfl:=Aa hF
     exact A8 z z<|⟨_,z,AR hC2 _⟩
    replace hL1:=AD hL1 hc2
    exact AJ<|AM<|Am<|Bb<|Ag z z<|Bj z z z<|Ae z z<|Ac<|Ak (l':=[(0,u1),(1,u2),(5,(I (w64 (x1+1))))]) ⟨z,z,z,Ai⟩<|⟨k1,Av _,w64 (x1+1),z,((Ap hB1).then hB2).below,hC2,hL1⟩
   replace hL1:=AD hL1 hc1
   refine Bt (A1 (A1 (Be ?_)))
   obtain rfl:=Aa hL1
   exact Ak (l':=[(0,u1),(1,u2)]) ⟨z,z,Ai⟩<|⟨z,z,(Ap hB1).below,hC1⟩
 rintro l2 _ w3 hs2 ⟨rfl,rfl,hB3,hC3⟩
 try dsimp only at hF
 refine AL hs2 ?_
 clear hs2
 refine be hF fun r2 hr3 hF=>BA (fun l w=>∃x4:Bool,x4=r2∧l=[(4,(.bool x4))]∧Below w3.heap.size w3 w∧Ctx [] w0 w []) ?_ ?_
 ·refine Bb<|Ag z z<|be hr3 fun x5 hr4 hr3=>cb Cu z z (c_S_IsSchema a1 u1 (g1.now hC3.keep) x5 hr4) fun w5 hB5=>have hC5:=hC3.grow hB5;Ag z z<|Br (fun hc3=>?_) (fun hc3=>?_)
  ·replace hr3:=AC hr3 hc3
   refine Aj z z<|Ag z z<|Aj z z<|AZ Bc g2 z z<|Aj z z<|C7 z z z<|AV z z z<|Ae z z<|Ac<|?_
   obtain rfl:=Aa hr3
   exact Ak (l':=[(4,(.bool (decide ((List.length a2:Int) ≤ 5))))]) ⟨z,Ai⟩<|⟨(decide ((List.length a2:Int) ≤ 5)),z,z,(Ap hB5).below,hC5⟩
  replace hr3:=AD hr3 hc3
  refine gs z z z z<|gs z z z z<|gs z z z z<|AS z z z<|Ae z z<|Ac<|?_
  obtain rfl:=Aa hr3
  exact Ak (l':=[(4,(.bool false))]) ⟨z,Ai⟩<|⟨false,z,z,(Ap hB5).below,hC5⟩
 rintro _ w4 ⟨x4,rfl,rfl,hB4,hC4⟩
 try dsimp only at hF
 refine AP ?_
 obtain rfl:=Aa hF
 exact A8 z z<|⟨_,z,AR hC4 _⟩
theorem c_S_IsVar {w0:World} (a1:Int) (rr:Bool) (hF:S.IsVar a1=some rr) :
 Calls Tryz.prog 91 [(I a1)].toArray w0 fun e w'=>∃v,e=.returned v∧Res w0 rr v w':=by
 refine Au Tryz.func91 z z ?_
 have hC0:=AA w0
 unfold S.IsVar at hF
 refine Ad<|Ae z z<|Ac<|Ad<|Ag z z<|be hF fun x1 hr1 hF=>cb B9 z z (c_S_l1In a1 10 17 x1 hr1) fun w1 hB1=>have hC1:=hC0.grow hB1;Ae z z<|Ac<|AP<|?_
 obtain rfl:=Aa hF
 exact A8 z z<|⟨_,z,AR hC1 _⟩
theorem c_S_IsTerm {w0:World} (a1:Int) (rr:Bool) (hF:S.IsTerm a1=some rr) :
 Calls Tryz.prog 144 [(I a1)].toArray w0 fun e w'=>∃v,e=.returned v∧Res w0 rr v w':=by
 refine Au Tryz.func144 z z ?_
 have hC0:=AA w0
 unfold S.IsTerm at hF
 refine Ad<|Ae z z<|Ac<|be hF fun r1 hr1 hF=>BA (fun l w=>∃x1:Bool,x1=r1∧l=[(2,(.bool x1))]∧Below w0.heap.size w0 w∧Ctx [] w0 w []) ?_ ?_
 ·refine Bb<|Ag z z<|be hr1 fun x2 hr2 hr1=>cb B9 z z (c_S_l1In a1 0 9 x2 hr2) fun w2 hB2=>have hC2:=hC0.grow hB2;Ag z z<|Br (fun hc1=>?_) (fun hc1=>?_)
  ·replace hr1:=AC hr1 hc1
   refine gs z z z z<|gs z z z z<|AV z z z<|Ae z z<|Ac<|?_
   obtain rfl:=Aa hr1
   exact Ak (l':=[(2,(.bool true))]) ⟨z,Ai⟩<|⟨true,z,z,(Ap hB2).below,hC2⟩
  replace hr1:=AD hr1 hc1
  refine Aj z z<|Ag z z<|be hr1 fun x3 hr3 hr1=>Aj z z<|cb CC z z (c_S_IsVar a1 x3 hr3) fun w3 hB3=>have hC3:=hC2.grow hB3;AS z z z<|Ae z z<|Ac<|?_
  obtain rfl:=Aa hr1
  exact Ak (l':=[(2,(.bool x3))]) ⟨z,Ai⟩<|⟨x3,z,z,((Ap hB2).then hB3).below,hC3⟩
 rintro _ w1 ⟨x1,rfl,rfl,hB1,hC1⟩
 try dsimp only at hF
 refine AP ?_
 obtain rfl:=Aa hF
 exact A8 z z<|⟨_,z,AR hC1 _⟩
theorem c_S_IsAtom {w0:World} (a1:(List Int)) (u1:Value) (g1:RO [] w0 u1 a1) (a2:(Int × (List Int))) (u2:Value) (g2:RO [] w0 u2 a2.2) (rr:Bool) (hF:S.IsAtom a1 a2=some rr) :
 Calls Tryz.prog 112 [u1,(.agg #[(I a2.1),u2])].toArray w0 fun e w'=>∃v,e=.returned v∧Res w0 rr v w':=by
 refine Au Tryz.func112 z z ?_
 have hC0:=AA w0
 unfold S.IsAtom at hF
 refine Ad<|Bv (cs:=[(I a2.1),u2]) hC0 z z z fun b1 w1 hC1 hB1 hN1=>Ae z z<|Ac<|A6<|be hF fun r1 hr1 hF=>BA (fun l w=>∃x1:Bool,x1=r1∧l=[(3,(ptr b1 0)),(28,(.bool x1))]∧Below w1.heap.size w1 w∧Ctx [] w0 w [Af b1 [(I a2.1),u2]]) ?_ ?_
 ·refine B1 23 z hmix fun w3 hB3=>have hC3:=hC1.grow hB3;tm 0 z z z<|be hr1 fun x2 hr2 hr1=>oe 1 z<|cb Cu z z (c_S_IsSchema a1 u1 (g1.now hC3.keep) x2 hr2) fun w4 hB4=>have hC4:=hC3.grow hB4;Ac<|tk 2 z z (Cm z)<|Bx z z<|Ac<|tm 3 z z z<|BQ (fun hc1=>?_) (fun hc1=>?_)
  ·replace hr1:=AC hr1 hc1
   refine sk 4 z z z z z<|sk 5 z z z z z<|sk 6 z z z z z<|sk 7 z z z z z<|sk 8 z z z z z<|sk 9 z z z z z<|sk 10 z z z z z<|tp 11 z z z z<|tm 12 z z z<|sk 13 z z z z z<|sk 14 z z z z z<|sk 15 z z z z z<|sk 16 z z z z z<|sk 17 z z z z z<|sk 18 z z z z z<|sk 19 z z z z z<|sk 20 z z z z z<|sk 21 z z z z z<|tp 22 z z z z<|dn<|?_
   obtain rfl:=Aa hr1
   exact Ak (l':=[(3,(ptr b1 0)),(28,(.bool true))]) ⟨z,z,Ai⟩<|⟨true,z,z,((Ap hB3).then hB4).below,hC4⟩
  replace hr1:=AD hr1 hc1
  refine tg 4 z z z z (BC AB z z (fun w=>⟨_,AE w⟩) z)<|Aj z z<|fd AB AE z z z z<|Ac<|tn 6 z z z z z<|tg 7 z z z z (CJ Ah g1 z)<|Aj z z<|AZ Ah g1 z z<|Ac<|tg 8 z z z z (C3 z z)<|Aj z z<|BN z z z<|Ac<|oe 5 z<|Aj z z<|Ao hC4 0 z z Bl z z<|Ac<|be hr1 fun x3 hr3 hr1=>oe 9 z<|Aj z z<|cb B9 z z (c_S_l1In a2.1 0 (w64 ((List.length a1:Int) - 1)) x3 hr3) fun w5 hB5=>have hC5:=hC4.grow hB5;Ac<|tg 10 z z z z (Cm z)<|Aj z z<|Bx z z<|Ac<|tq 11 z z z z<|tm 12 z z z<|BQ (fun hc2=>?_) (fun hc2=>?_)
  ·replace hr1:=AC hr1 hc2
   refine sk 13 z z z z z<|sk 14 z z z z z<|sk 15 z z z z z<|sk 16 z z z z z<|sk 17 z z z z z<|sk 18 z z z z z<|sk 19 z z z z z<|sk 20 z z z z z<|sk 21 z z z z z<|tp 22 z z z z<|dn<|?_
   obtain rfl:=Aa hr1
   exact Ak (l':=[(3,(ptr b1 0)),(28,(.bool true))]) ⟨z,z,Ai⟩<|⟨true,z,z,(((Ap hB3).then hB4).then hB5).below,hC5⟩
  replace hr1:=AD hr1 hc2
  refine tg 13 z z z z (BC AB z z (fun w=>⟨_,Aw w⟩) z)<|Aj z z<|fd AB Aw z z z z<|Ac<|tn 16 z z z z z<|tg 17 z z z z (BC AB z z (fun w=>⟨_,AE w⟩) z)<|Aj z z<|fd AB AE z z z z<|Ac<|be hr1 fun x4 hx1 hr1=>wAS (l':=[(0,u1),(1,(.agg #[(I a2.1),u2])),(3,(ptr b1 0)),(4,(.bool false)),(6,u1),(7,(.bool x2)),(8,(.bool (!x2))),(9,(.bool false)),(10,(ptr b1 0)),(11,(I a2.1)),(12,u1),(13,(I (List.length a1:Int))),(14,(I (w64 ((List.length a1:Int) - 1)))),(15,(.bool x3)),(16,(.bool (!x3))),(17,(.bool (!x3))),(18,(.bool false)),(19,(ptr b1 1)),(22,u1),(23,(ptr b1 0))]) ⟨z,z,z,z,z,z,z,z,z,z,z,z,z,z,z,z,z,z,z,z,Ai⟩<|Bw [⟨14,[],fun vs=>Bh u2,[]⟩,⟨15,[],fun vs=>Bh (I (List.length a2.2:Int)),[]⟩,⟨18,[],fun vs=>Bh (I a2.1),[]⟩,⟨19,[],fun vs=>Ci [] w0 x4,[]⟩,⟨20,[],fun vs=>Bh (I x4),[]⟩] [[],[14],[],[18],[19]] 2 z (by kernel_rfl) (by kernel_rfl) z ?_ ?_
  ·refine An z ?_ ?_
   ·intro w6 hB6
    refine Ar<|⟨_,z,?_⟩
    exact Aj z z<|Ao (hC5.grow hB6) 0 z z AQ z z<|Ac<|Ay (Al _ _) z z ⟨z,z⟩
   refine An z ?_ ?_
   ·intro w6 hB6
    refine AK z z z ?_
    rintro _ _ ⟨rfl,rfl⟩ _
    refine Ar<|⟨_,z,?_⟩
    exact Aj z z<|AZ Ah g2 z z<|Ac<|Ay (Al _ _) z z ⟨z,z⟩
   refine An z ?_ ?_
   ·intro w6 hB6
    refine Ar<|⟨_,z,?_⟩
    exact Aj z z<|Ao (hC5.grow hB6) 0 z z Bl z z<|Ac<|Ay (Al _ _) z z ⟨z,z⟩
   refine An z ?_ ?_
   ·intro w6 hB6
    refine AK z z z ?_
    rintro _ _ ⟨rfl,rfl⟩ _
    refine Ar<|⟨_,z,?_⟩
    exact Aj z z<|AG Ah ty3 g1 hx1 z z z fun b2 o1 h1=>Ac<|Ay (Al _ _) z z ⟨z,_,_,z,h1⟩
   refine An z ?_ ?_
   ·intro w6 hB6
    refine AK z z z ?_
    rintro _ _ ⟨rfl,b2,o1,rfl,h1⟩ _
    refine Ar<|⟨_,z,?_⟩
    refine Aj z z<|A3 ty3 h1 (hC5.keep.then hB6) z z fun v1 h2=>?_
    obtain rfl:=Bn h2
    exact Ac<|Ay (Al _ _) z z ⟨z,z⟩
   exact Bp
  intro w7 hB7
  refine At z z z ?_
  rintro _ _ ⟨rfl,rfl⟩
  refine At z z z ?_
  rintro _ _ ⟨rfl,rfl⟩
  refine At z z z ?_
  rintro _ _ ⟨rfl,rfl⟩
  refine At z z z ?_
  rintro _ _ ⟨rfl,b2,o1,rfl,h1⟩
  refine At z z z ?_
  rintro _ _ ⟨rfl,rfl⟩
  refine B0 fun hn1 hb1=>have hC6:=hC5.grow hB7;tg 21 z z z z (fl_neq z z)<|Aj z z<|C4 z z z<|Ac<|tq 22 z z z z<|dn<|?_
  obtain rfl:=Aa hr1
  exact Ak (l':=[(3,(ptr b1 0)),(28,(.bool (!decide ((List.length a2.2:Int)=x4))))]) ⟨z,z,Ai⟩<|⟨(!decide ((List.length a2.2:Int)=x4)),z,z,((((Ap hB3).then hB4).then hB5).then hB7).below,hC6⟩
 rintro _ w2 ⟨x1,rfl,rfl,hB2,hC2⟩
 try dsimp only at hF
 refine AI z (fun hc3=>?_) (fun hc3=>?_)
 ·replace hF:=AC hF hc3
  refine Ad<|Ae z z<|Ac<|AP<|Az<|?_
  obtain rfl:=Aa hF
  exact A8 z z<|⟨_,z,AR hC2 _⟩
 replace hF:=AD hF hc3
 refine AJ<|Am<|A6<|Ad<|Ae z z<|Ac<|be hF fun r2 hr4 hF=>Bd (fun l w=>.inl ()=r2∧l=[]∧Below w2.heap.size w2 w∧Ctx [] w0 w []) ?_ ?_
 ·refine AH<|wS (l':=[(3,(ptr b1 0)),(5,(I 0))]) ⟨z,z,Ai⟩<|Bu (fun k l w=>∃x5:Int,l=[(3,(ptr b1 0)),(5,(I x5))]∧Below w2.heap.size w2 w∧Ctx [] w0 w [Af b1 [(I a2.1),u2]]∧S.IsAtom_l1 a2 k x5=some r2) FUEL ⟨0,z,(Al _ _),hC2,hr4⟩<|?_
  clear hr4
  rintro k1 _ w9 ⟨x5,rfl,hB8,hC7,hL1⟩
  cases k1 with
  | zero=>rw [S.IsAtom_l1] at hL1; cases hL1
  | succ k1 =>
   rw [S.IsAtom_l1] at hL1
   refine A6<|Ad<|Ag z z<|fd AB Aw z z z z<|Ao hC7 0 z z AQ z z<|AZ Ah g2 z z<|Bo z z z<|Ac<|AI z (fun hc4=>?_) (fun hc4=>?_)
   ·replace hL1:=AC hL1 hc4
    refine AJ<|Am<|A6<|AH<|Ad<|fd AB Aw z z z z<|Ao hC7 0 z z AQ z z<|Ag z z<|be hL1 fun x6 hx2 hL1=>AG Ah ty3 g2 hx2 z z z fun b3 o2 h3=>A3 ty3 h3 hC7.keep z z fun v2 h4=>?_
    obtain rfl:=Bn h4
    refine be hL1 fun x7 hr5 hL1=>cb Tryz.call144 z z (c_S_IsTerm x6 x7 hr5) fun w10 hB9=>have hC8:=hC7.grow hB9;Bx z z<|Ac<|AI z (fun hc5=>?_) (fun hc5=>?_)
    ·replace hL1:=AC hL1 hc5
     refine Ad<|Ae z z<|Ac<|AP<|Bk<|Az<|Az<|Bk<|Az<|Az<|?_
     obtain rfl:=Aa hL1
     dsimp only at hF
     obtain rfl:=Aa hF
     exact A8 z z<|⟨_,z,AR hC8 _⟩
    replace hL1:=AD hL1 hc5
    exact AJ<|AM<|Am<|Bb<|Ag z z<|Bj z z z<|Ae z z<|Ac<|Ak (l':=[(3,(ptr b1 0)),(5,(I (w64 (x5+1))))]) ⟨z,z,Ai⟩<|⟨k1,Av _,w64 (x5+1),z,((Ap hB8).then hB9).below,hC8,hL1⟩
   replace hL1:=AD hL1 hc4
   refine Bt (A1 (A1 (Be ?_)))
   obtain rfl:=Aa hL1
   have hC9:=hC7.h0
   exact Ak (l':=[]) Ai<|⟨z,z,(Ap hB8).below,hC9⟩
 rintro l3 _ w11 hs3 ⟨rfl,rfl,hB10,hC10⟩
 try dsimp only at hF
 refine AL hs3 ?_
 clear hs3
 refine Ad<|Ae z z<|Ac<|AP<|?_
 obtain rfl:=Aa hF
 exact A8 z z<|⟨_,z,AR hC10 _⟩
theorem c_S_VarsOf {w0:World} (a1:((List Int) × (List (Int × (List Int))))) (u1:Value) (g1:RO [] w0 u1 a1.1) (u2:Value) (g2:RO [] w0 u2 a1.2) (rr:(List Int)) (hF:S.VarsOf a1=some rr) :
 Calls Tryz.prog 113 [(.agg #[u1,u2])].toArray w0 fun e w'=>∃v,e=.returned v∧Res w0 rr v w':=by
 refine Au Tryz.func113 z z ?_
 have hC0:=AA w0
 unfold S.VarsOf at hF
 refine Ad<|Bv (cs:=[u1,u2]) hC0 z z z fun b1 w1 hC1 hB1 hN1=>Ae z z<|Ac<|Ad<|A2 (vs:=[]) hC1 Ah ty3 z z z z (by simp) z z fun b2 w2 hC2 hB2=>?_
 have hC3:=hC2.row0 (α:=Int)
 have hC4:=hC3.front 1 z
 dsimp only [List.eraseIdx,List.cons_append,List.nil_append,List.append_nil] at hC4
 have hC5:Ctx [] w0 w2 (Ab (.slice (some ⟨b2,0,none⟩) 0 0) (([]:List Int):List Int)::[Af b1 [u1,u2]]):=hC4.rowOwn (by simp [maxLen])
 refine Ae z z<|Ac<|A6<|Ad<|Ae z z<|Ac<|be hF fun r1 hr1 hF=>Bd (fun l w=>∃v2:Value,∃x3:(List Int),x3=r1∧l=[(3,v2)]∧Ctx [] w0 w [Ab v2 (x3:(List Int))]) ?_ ?_
 ·refine AH<|wS (l':=[(1,(ptr b1 0)),(3,(.slice (some ⟨b2,0,none⟩) 0 0)),(4,(I 0))]) ⟨z,z,z,Ai⟩<|Bu (fun k l w=>∃v1:Value,∃x1:(List Int),∃x2:Int,l=[(1,(ptr b1 0)),(3,v1),(4,(I x2))]∧Ctx [] w0 w [Ab v1 (x1:(List Int)),Af b1 [u1,u2]]∧S.VarsOf_l1 a1 k x1 x2=some r1) FUEL ⟨(.slice (some ⟨b2,0,none⟩) 0 0),([]:List Int),0,z,hC5,hr1⟩<|?_
  clear hr1
  rintro k1 _ w3 ⟨v1,x1,x2,rfl,hC6,hL1⟩
  cases k1 with
  | zero=>rw [S.VarsOf_l1] at hL1; cases hL1
  | succ k1 =>
   rw [S.VarsOf_l1] at hL1
   refine A6<|Ad<|Ag z z<|fd A0 AU z z z z<|Ao hC6 1 z z Ba z z<|AZ Ax g2 z z<|Bo z z z<|Ac<|AI z (fun hc1=>?_) (fun hc1=>?_)
   ·replace hL1:=AC hL1 hc1
    refine AJ<|Am<|A6<|AH<|Ad<|Ae z z<|Ac<|be hL1 fun r2 hr2 hL1=>Bd (fun l w=>∃v4:Value,∃x6:(List Int),x6=r2∧l=[(1,(ptr b1 0)),(3,v4),(4,(I x2))]∧Ctx [] w0 w [Ab v4 (x6:(List Int)),Af b1 [u1,u2]]) ?_ ?_
    ·refine AH<|wS (l':=[(1,(ptr b1 0)),(3,v1),(4,(I x2)),(5,(I 0))]) ⟨z,z,z,z,Ai⟩<|Bu (fun k l w=>∃v3:Value,∃x4:(List Int),∃x5:Int,l=[(1,(ptr b1 0)),(3,v3),(4,(I x2)),(5,(I x5))]∧Ctx [] w0 w [Ab v3 (x4:(List Int)),Af b1 [u1,u2]]∧S.VarsOf_l2 a1 x2 k x4 x5=some r2) FUEL ⟨v1,x1,0,z,hC6,hr2⟩<|?_
     clear hr2
     rintro k2 _ w4 ⟨v3,x4,x5,rfl,hC7,hL2⟩
     cases k2 with
     | zero=>rw [S.VarsOf_l2] at hL2; cases hL2
     | succ k2 =>
      rw [S.VarsOf_l2] at hL2
      refine A6<|Ad<|Ag z z<|fd A0 AU z z z z<|Ao hC7 1 z z Ba z z<|Ag z z<|be hL2 fun x7 hx1 hL2=>AG Ax ty84 g2 hx1 z z z fun b3 o1 h1=>fd AB Aw z z z z<|A3 ty22 h1.snd hC7.keep z z fun v5 h2=>AZ Ah h2 z z<|Bo z z z<|Ac<|AI z (fun hc2=>?_) (fun hc2=>?_)
      ·replace hL2:=AC hL2 hc2
       refine AJ<|Am<|A6<|AH<|Ad<|fd A0 AU z z z z<|Ao hC7 1 z z Ba z z<|Ag z z<|be hL2 fun x8 hx2 hL2=>AG Ax ty84 g2 hx2 z z z fun b4 o2 h3=>fd AB Aw z z z z<|A3 ty22 h3.snd hC7.keep z z fun v6 h4=>Ag z z<|be hL2 fun x9 hx3 hL2=>AG Ah ty3 h4 hx3 z z z fun b5 o3 h5=>A3 ty3 h5 hC7.keep z z fun v7 h6=>?_
       obtain rfl:=Bn h6
       refine be hL2 fun x10 hr3 hL2=>cb CC z z (c_S_IsVar x9 x10 hr3) fun w5 hB5=>have hC8:=hC7.grow hB5;Ac<|be hL2 fun r3 hr4 hL2=>Bd (fun l w=>∃v8:Value,∃x11:(List Int),x11=r3∧l=[(1,(ptr b1 0)),(3,v8),(4,(I x2)),(5,(I x5))]∧Ctx [] w0 w [Ab v8 (x11:(List Int)),Af b1 [u1,u2]]) ?_ ?_
       ·refine AI z (fun hc3=>?_) (fun hc3=>?_)
        ·replace hr4:=AC hr4 hc3
         refine Bb<|Ag z z<|fd A0 AU z z z z<|Ao hC8 1 z z Ba z z<|Ag z z<|be hr4 fun x12 hx4 hr4=>AG Ax ty84 g2 hx4 z z z fun b6 o4 h7=>fd AB Aw z z z z<|A3 ty22 h7.snd hC8.keep z z fun v9 h8=>Ag z z<|be hr4 fun x13 hx5 hr4=>AG Ah ty3 h8 hx5 z z z fun b7 o5 h9=>A3 ty3 h9 hC8.keep z z fun v10 h10=>?_
         obtain rfl:=Bn h10
         obtain ⟨x14,hr5,hr4⟩:=BX hr4
         obtain ⟨Fs1,hH1,hn1,hF1,hO1,hb1⟩:=AW (As:=[Af b1 [u1,u2]]) [Ab v3 (x4:(List Int))] hC8
         refine A7 C2 z z (c_S_l3Put_own x4 v3 x13 hH1 hn1 x14 hr5) ?_
         rintro v11 w7 ⟨_,rfl,hq1⟩
         have hC11:Ctx [] w0 w7 [Ab v11 (x14:(List Int)),Af b1 [u1,u2]]:=hb1 _ _ hq1
         refine Ae z z<|Ac<|?_
         obtain rfl:=Aa hr4
         exact Ak (l':=[(1,(ptr b1 0)),(3,v11),(4,(I x2)),(5,(I x5))]) ⟨z,z,z,z,Ai⟩<|⟨v11,x14,z,z,hC11⟩
        replace hr4:=AD hr4 hc3
        refine AJ ?_
        obtain rfl:=Aa hr4
        exact Ak (l':=[(1,(ptr b1 0)),(3,v3),(4,(I x2)),(5,(I x5))]) ⟨z,z,z,z,Ai⟩<|⟨v3,x4,z,z,hC8⟩
       rintro l3 _ w6 hs3 ⟨v8,x11,rfl,rfl,hC9⟩
       try dsimp only at hL2
       refine AM<|AL hs3<|?_
       clear hs3
       exact Bb<|Ag z z<|Bj z z z<|Ae z z<|Ac<|Ak (l':=[(1,(ptr b1 0)),(3,v8),(4,(I x2)),(5,(I (w64 (x5+1))))]) ⟨z,z,z,z,Ai⟩<|⟨k2,Av _,v8,x11,w64 (x5+1),z,hC9,hL2⟩
      replace hL2:=AD hL2 hc2
      refine Bt (A1 (A1 (Be ?_)))
      obtain rfl:=Aa hL2
      exact Ak (l':=[(1,(ptr b1 0)),(3,v3),(4,(I x2))]) ⟨z,z,z,Ai⟩<|⟨v3,x4,z,z,hC7⟩
    rintro l4 _ w9 hs4 ⟨v4,x6,rfl,rfl,hC12⟩
    try dsimp only at hL1
    refine AM<|AL hs4<|?_
    clear hs4
    exact Bb<|Ag z z<|Bj z z z<|Ae z z<|Ac<|Ak (l':=[(1,(ptr b1 0)),(3,v4),(4,(I (w64 (x2+1))))]) ⟨z,z,z,Ai⟩<|⟨k1,Av _,v4,x6,w64 (x2+1),z,hC12,hL1⟩
   replace hL1:=AD hL1 hc1
   refine Bt (A1 (A1 (Be ?_)))
   obtain rfl:=Aa hL1
   have hC13:=hC6.h1
   exact Ak (l':=[(3,v1)]) ⟨z,Ai⟩<|⟨v1,x1,z,z,hC13⟩
 rintro l5 _ w10 hs5 ⟨v2,x3,rfl,rfl,hC14⟩
 try dsimp only at hF
 refine AL hs5 ?_
 clear hs5
 refine Ad<|Ag z z<|Ae z z<|Ac<|AP<|?_
 obtain rfl:=Aa hF
 exact A8 z z<|⟨_,z,Co hC14 0 z⟩
theorem c_S_IsQuery {w0:World} (a1:(List Int)) (u1:Value) (g1:RO [] w0 u1 a1) (a2:((List Int) × (List (Int × (List Int))))) (u2:Value) (g2:RO [] w0 u2 a2.1) (u3:Value) (g3:RO [] w0 u3 a2.2) (rr:Bool) (hF:S.IsQuery a1 a2=some rr) :
 Calls Tryz.prog 90 [u1,(.agg #[u2,u3])].toArray w0 fun e w'=>∃v,e=.returned v∧Res w0 rr v w':=by
 refine Au Tryz.func90 z z ?_
 have hC0:=AA w0
 unfold S.IsQuery at hF
 refine Ad<|Bv (cs:=[u2,u3]) hC0 z z z fun b1 w1 hC1 hB1 hN1=>Ae z z<|Ac<|A6<|Ad<|Ae z z<|Ac<|be hF fun r1 hr1 hF=>Bd (fun l w=>.inl ()=r1∧l=[(0,u1),(3,(ptr b1 0))]∧Below w1.heap.size w1 w∧Ctx [] w0 w [Af b1 [u2,u3]]) ?_ ?_
 ·refine AH<|wS (l':=[(0,u1),(3,(ptr b1 0)),(5,(I 0))]) ⟨z,z,z,Ai⟩<|Bu (fun k l w=>∃x1:Int,l=[(0,u1),(3,(ptr b1 0)),(5,(I x1))]∧Below w1.heap.size w1 w∧Ctx [] w0 w [Af b1 [u2,u3]]∧S.IsQuery_l1 a2 a1 k x1=some r1) FUEL ⟨0,z,(Al _ _),hC1,hr1⟩<|?_
  clear hr1
  rintro k1 _ w2 ⟨x1,rfl,hB2,hC2,hL1⟩
  cases k1 with
  | zero=>rw [S.IsQuery_l1] at hL1; cases hL1
  | succ k1 =>
   rw [S.IsQuery_l1] at hL1
   refine A6<|Ad<|Ag z z<|fd A0 AU z z z z<|Ao hC2 0 z z Ba z z<|AZ Ax g3 z z<|Bo z z z<|Ac<|AI z (fun hc1=>?_) (fun hc1=>?_)
   ·replace hL1:=AC hL1 hc1
    refine AJ<|Am<|A6<|AH<|Ad<|Ag z z<|fd A0 AU z z z z<|Ao hC2 0 z z Ba z z<|Ag z z<|be hL1 fun x2 hx1 hL1=>AG Ax ty84 g3 hx1 z z z fun b2 o1 h1=>A3 ty84 h1 hC2.keep z z fun v1 h2=>?_
    obtain ⟨v2,rfl,h3⟩:=Cc h2
    refine be hL1 fun x3 hr2 hL1=>cb Tryz.call112 z z (c_S_IsAtom a1 u1 (g1.now hC2.keep) x2 v2 (h3.now hC2.keep) x3 hr2) fun w3 hB3=>have hC3:=hC2.grow hB3;Bx z z<|Ac<|AI z (fun hc2=>?_) (fun hc2=>?_)
    ·replace hL1:=AC hL1 hc2
     refine Ad<|Ae z z<|Ac<|AP<|Bk<|Az<|Az<|Bk<|Az<|Az<|?_
     obtain rfl:=Aa hL1
     dsimp only at hF
     obtain rfl:=Aa hF
     exact A8 z z<|⟨_,z,AR hC3 _⟩
    replace hL1:=AD hL1 hc2
    exact AJ<|AM<|Am<|Bb<|Ag z z<|Bj z z z<|Ae z z<|Ac<|Ak (l':=[(0,u1),(3,(ptr b1 0)),(5,(I (w64 (x1+1))))]) ⟨z,z,z,Ai⟩<|⟨k1,Av _,w64 (x1+1),z,((Ap hB2).then hB3).below,hC3,hL1⟩
   replace hL1:=AD hL1 hc1
   refine Bt (A1 (A1 (Be ?_)))
   obtain rfl:=Aa hL1
   exact Ak (l':=[(0,u1),(3,(ptr b1 0))]) ⟨z,z,Ai⟩<|⟨z,z,(Ap hB2).below,hC2⟩
 rintro l2 _ w4 hs2 ⟨rfl,rfl,hB4,hC4⟩
 try dsimp only at hF
 refine AL hs2 ?_
 clear hs2
 refine Ad<|A9 [u2,u3] hC4 0 z z z AT A4 z z<|be hF fun x4 hr3 hF=>A7 Tryz.call113 z z (c_S_VarsOf (a2.1,a2.2) u2 (g2.now hC4.keep) u3 (g3.now hC4.keep) x4 hr3)<|?_
 rintro v3 w5 ⟨hB5,F1,hv2,hn1,hb1⟩
 have hC5:=hC4.push hB5 (A:=Ab v3 x4) hv2 hn1 hb1
 refine Ae z z<|Ac<|A6<|Ad<|Ae z z<|Ac<|be hF fun r2 hr4 hF=>Bd (fun l w=>.inl ()=r2∧l=[(0,u1),(3,(ptr b1 0))]∧Below w5.heap.size w5 w∧Ctx [] w0 w [Af b1 [u2,u3]]) ?_ ?_
 ·refine AH<|wS (l':=[(0,u1),(3,(ptr b1 0)),(6,v3),(7,(I 0))]) ⟨z,z,z,z,Ai⟩<|Bu (fun k l w=>∃x5:Int,l=[(0,u1),(3,(ptr b1 0)),(6,v3),(7,(I x5))]∧Below w5.heap.size w5 w∧Ctx [] w0 w [Ab v3 (x4:(List Int)),Af b1 [u2,u3]]∧S.IsQuery_l2 a2 x4 k x5=some r2) FUEL ⟨0,z,(Al _ _),hC5,hr4⟩<|?_
  clear hr4
  rintro k2 _ w6 ⟨x5,rfl,hB6,hC6,hL2⟩
  cases k2 with
  | zero=>rw [S.IsQuery_l2] at hL2; cases hL2
  | succ k2 =>
   rw [S.IsQuery_l2] at hL2
   refine A6<|Ad<|Ag z z<|fd A0 Aw z z z z<|Ao hC6 1 z z AQ z z<|AZ Ah g2 z z<|Bo z z z<|Ac<|AI z (fun hc3=>?_) (fun hc3=>?_)
   ·replace hL2:=AC hL2 hc3
    refine AJ<|Am<|A6<|AH<|Ad<|Ag z z<|fd A0 Aw z z z z<|Ao hC6 1 z z AQ z z<|Ag z z<|be hL2 fun x6 hx2 hL2=>AG Ah ty3 g2 hx2 z z z fun b3 o2 h4=>A3 ty3 h4 hC6.keep z z fun v4 h5=>?_
    obtain rfl:=Bn h5
    refine be hL2 fun x7 hr5 hL2=>cb Cl z z (c_S_l2Has x4 v3 ((hC6.ro 0 z).now (Aq _ _)) x6 x7 hr5) fun w7 hB7=>have hC7:=hC6.grow hB7;Bx z z<|Ac<|AI z (fun hc4=>?_) (fun hc4=>?_)
    ·replace hL2:=AC hL2 hc4
     refine Ad<|Ae z z<|Ac<|AP<|Bk<|Az<|Az<|Bk<|Az<|Az<|?_
     obtain rfl:=Aa hL2
     dsimp only at hF
     obtain rfl:=Aa hF
     exact A8 z z<|⟨_,z,AR hC7 _⟩
    replace hL2:=AD hL2 hc4
    exact AJ<|AM<|Am<|Bb<|Ag z z<|Bj z z z<|Ae z z<|Ac<|Ak (l':=[(0,u1),(3,(ptr b1 0)),(6,v3),(7,(I (w64 (x5+1))))]) ⟨z,z,z,z,Ai⟩<|⟨k2,Av _,w64 (x5+1),z,((Ap hB6).then hB7).below,hC7,hL2⟩
   replace hL2:=AD hL2 hc3
   refine Bt (A1 (A1 (Be ?_)))
   obtain rfl:=Aa hL2
   have hC8:=hC6.f1
   have hC9:=hC8.h1
   exact Ak (l':=[(0,u1),(3,(ptr b1 0))]) ⟨z,z,Ai⟩<|⟨z,z,(Ap hB6).below,hC9⟩
 rintro l4 _ w9 hs4 ⟨rfl,rfl,hB8,hC10⟩
 try dsimp only at hF
 refine AL hs4 ?_
 clear hs4
 refine be hF fun r3 hr6 hF=>BA (fun l w=>∃x8:Bool,x8=r3∧l=[(4,(.bool x8))]∧Below w9.heap.size w9 w∧Ctx [] w0 w []) ?_ ?_
 ·refine Bb<|Ag z z<|be hr6 fun x9 hr7 hr6=>cb Cu z z (c_S_IsSchema a1 u1 (g1.now hC10.keep) x9 hr7) fun w11 hB10=>have hC12:=hC10.grow hB10;Ag z z<|Br (fun hc5=>?_) (fun hc5=>?_)
  ·replace hr6:=AC hr6 hc5
   refine Aj z z<|fd A0 AU z z z z<|Aj z z<|Ao hC12 0 z z Ba z z<|Aj z z<|AZ Ax g3 z z<|be hr6 fun x10 hr8 hr6=>Aj z z<|cb B9 z z (c_S_l1In (List.length a2.2:Int) 1 4 x10 hr8) fun w12 hB11=>have hC13:=hC12.grow hB11;AV z z z<|Ag z z<|Br (fun hc6=>?_) (fun hc6=>?_)
   ·replace hr6:=AC hr6 hc6
    refine Aj z z<|fd A0 Aw z z z z<|Aj z z<|Ao hC13 0 z z AQ z z<|Aj z z<|AZ Ah g2 z z<|Aj z z<|C7 z z z<|AV z z z<|Ae z z<|Ac<|?_
    obtain rfl:=Aa hr6
    have hC14:=hC13.h0
    exact Ak (l':=[(4,(.bool (decide ((List.length a2.1:Int) ≤ 3))))]) ⟨z,Ai⟩<|⟨(decide ((List.length a2.1:Int) ≤ 3)),z,z,((Ap hB10).then hB11).below,hC14⟩
   replace hr6:=AD hr6 hc6
   refine gs z z z z<|gs z z z z<|gs z z z z<|gs z z z z<|AS z z z<|Ae z z<|Ac<|?_
   obtain rfl:=Aa hr6
   have hC15:=hC13.h0
   exact Ak (l':=[(4,(.bool false))]) ⟨z,Ai⟩<|⟨false,z,z,((Ap hB10).then hB11).below,hC15⟩
  replace hr6:=AD hr6 hc5
  refine gs z z z z<|gs z z z z<|gs z z z z<|gs z z z z<|AS z z z<|Ag z z<|gs z z z z<|gs z z z z<|gs z z z z<|gs z z z z<|AS z z z<|Ae z z<|Ac<|?_
  obtain rfl:=Aa hr6
  have hC16:=hC12.h0
  exact Ak (l':=[(4,(.bool false))]) ⟨z,Ai⟩<|⟨false,z,z,(Ap hB10).below,hC16⟩
 rintro _ w10 ⟨x8,rfl,rfl,hB9,hC11⟩
 try dsimp only at hF
 refine AP ?_
 obtain rfl:=Aa hF
 exact A8 z z<|⟨_,z,AR hC11 _⟩
theorem c_S_l6Fine {w0:World} (a1:(List Int)) (u1:Value) (g1:RO [] w0 u1 a1) (a2:(List (Int × (List Int) × Int × Int × Int))) (u2:Value) (g2:RO [] w0 u2 a2) (a3:((List Int) × (List (Int × (List Int))))) (u3:Value) (g3:RO [] w0 u3 a3.1) (u4:Value) (g4:RO [] w0 u4 a3.2) (rr:Bool) (hF:S.l6Fine a1 a2 a3=some rr) :
 Calls Tryz.prog 53 [u1,u2,(.agg #[u3,u4])].toArray w0 fun e w'=>∃v,e=.returned v∧Res w0 rr v w':=by
 refine Au Tryz.func53 z z ?_
 have hC0:=AA w0
 unfold S.l6Fine at hF
 refine Ad<|Bv (cs:=[u3,u4]) hC0 z z z fun b1 w1 hC1 hB1 hN1=>Ae z z<|Ac<|be hF fun r1 hr1 hF=>BA (fun l w=>∃x1:Bool,x1=r1∧l=[(6,(.bool x1))]∧Below w1.heap.size w1 w∧Ctx [] w0 w []) ?_ ?_
 ·refine Bb<|Ag z z<|Ag z z<|be hr1 fun x2 hr2 hr1=>cb Tryz.call89 z z (c_S_AreMethods a1 u1 (g1.now hC1.keep) a2 u2 (g2.now hC1.keep) x2 hr2) fun w3 hB3=>have hC3:=hC1.grow hB3;Ag z z<|Br (fun hc1=>?_) (fun hc1=>?_)
  ·replace hr1:=AC hr1 hc1
   refine Aj z z<|Ag z z<|Aj z z<|A9 [u3,u4] hC3 0 z z z AT A4 z z<|be hr1 fun x3 hr3 hr1=>Aj z z<|cb Tryz.call90 z z (c_S_IsQuery a1 u1 (g1.now hC3.keep) (a3.1,a3.2) u3 (g3.now hC3.keep) u4 (g4.now hC3.keep) x3 hr3) fun w4 hB4=>have hC4:=hC3.grow hB4;AV z z z<|Ae z z<|Ac<|?_
   obtain rfl:=Aa hr1
   have hC5:=hC4.h0
   exact Ak (l':=[(6,(.bool x3))]) ⟨z,Ai⟩<|⟨x3,z,z,((Ap hB3).then hB4).below,hC5⟩
  replace hr1:=AD hr1 hc1
  refine gs z z z z<|gs z z z z<|gs z z z z<|AS z z z<|Ae z z<|Ac<|?_
  obtain rfl:=Aa hr1
  have hC6:=hC3.h0
  exact Ak (l':=[(6,(.bool false))]) ⟨z,Ai⟩<|⟨false,z,z,(Ap hB3).below,hC6⟩
 rintro _ w2 ⟨x1,rfl,rfl,hB2,hC2⟩
 try dsimp only at hF
 refine AP ?_
 obtain rfl:=Aa hF
 exact A8 z z<|⟨_,z,AR hC2 _⟩
theorem c_S_CanCall {w0:World} (a1:(Int × (List Int) × Int × Int × Int)) (u1:Value) (g1:RO [] w0 u1 a1.2.1) (a2:(Int × (List Int))) (u2:Value) (g2:RO [] w0 u2 a2.2) (a3:(List Int)) (u3:Value) (g3:RO [] w0 u3 a3) (rr:Bool) (hF:S.CanCall a1 a2 a3=some rr) :
 Calls Tryz.prog 55 [(.agg #[(I a1.1),u1,(I a1.2.2.1),(I a1.2.2.2.1),(I a1.2.2.2.2)]),(.agg #[(I a2.1),u2]),u3].toArray w0 fun e w'=>∃v,e=.returned v∧Res w0 rr v w':=by
 refine Au Tryz.func55 z z ?_
 have hC0:=AA w0
 unfold S.CanCall at hF
 refine Ad<|Bv (cs:=[(I a1.1),u1,(I a1.2.2.1),(I a1.2.2.2.1),(I a1.2.2.2.2)]) hC0 z z z fun b1 w1 hC1 hB1 hN1=>Bv (cs:=[(I a2.1),u2]) hC1 z z z fun b2 w2 hC2 hB2 hN2=>Ae z z<|Ac<|A6<|Ad<|fd AN AE z z z z<|Ao hC2 1 z z Bl z z<|fd AB AE z z z z<|Ao hC2 0 z z Bl z z<|C4 z z z<|Ac<|AI z (fun hc1=>?_) (fun hc1=>?_)
 ·replace hF:=AC hF hc1
  refine Ad<|Ae z z<|Ac<|AP<|Az<|?_
  obtain rfl:=Aa hF
  exact A8 z z<|⟨_,z,AR hC2 _⟩
 replace hF:=AD hF hc1
 refine AJ<|Am<|A6<|Ad<|Ae z z<|Ac<|be hF fun r1 hr1 hF=>Bd (fun l w=>.inl ()=r1∧l=[]∧Below w2.heap.size w2 w∧Ctx [] w0 w []) ?_ ?_
 ·refine AH<|wS (l':=[(2,u3),(3,(ptr b1 0)),(4,(ptr b2 0)),(7,(I 0))]) ⟨z,z,z,z,Ai⟩<|Bu (fun k l w=>∃x1:Int,l=[(2,u3),(3,(ptr b1 0)),(4,(ptr b2 0)),(7,(I x1))]∧Below w2.heap.size w2 w∧Ctx [] w0 w [Af b2 [(I a2.1),u2],Af b1 [(I a1.1),u1,(I a1.2.2.1),(I a1.2.2.2.1),(I a1.2.2.2.2)]]∧S.CanCall_l1 a1 a2 a3 k x1=some r1) FUEL ⟨0,z,(Al _ _),hC2,hr1⟩<|?_
  clear hr1
  rintro k1 _ w3 ⟨x1,rfl,hB3,hC3,hL1⟩
  cases k1 with
  | zero=>rw [S.CanCall_l1] at hL1; cases hL1
  | succ k1 =>
   rw [S.CanCall_l1] at hL1
   refine A6<|Ad<|Ag z z<|fd AN Aw z z z z<|Ao hC3 1 z z AQ z z<|AZ Ah g1 z z<|Bo z z z<|Ac<|AI z (fun hc2=>?_) (fun hc2=>?_)
   ·replace hL1:=AC hL1 hc2
    refine AJ<|Am<|A6<|AH<|A6<|A6<|B1 11 z hmix fun w4 hB4=>have hC4:=hC3.grow hB4;tf 0 AN Aw z z z z z<|tm 2 z z z<|tf 5 AB Aw z z z z z<|be hL1 fun x2 hx1 hL1=>wAS (l':=[(2,u3),(3,(ptr b1 0)),(4,(ptr b2 0)),(7,(I x1)),(14,(I x1)),(15,(ptr b1 1)),(16,u1),(17,(I (List.length a1.2.1:Int))),(18,(.bool (decide (x1 < (List.length a1.2.1:Int))))),(21,(ptr b1 1)),(23,(I x1)),(26,(ptr b2 1))]) ⟨z,z,z,z,z,z,z,z,z,z,z,z,Ai⟩<|Bw [⟨1,[],fun vs=>Bh u1,[]⟩,⟨3,[],fun vs=>Ci [] w0 x2,[]⟩,⟨4,[],fun vs=>Bh (I x2),[]⟩,⟨6,[],fun vs=>Bh u2,[]⟩,⟨7,[],fun vs=>Bh (I (List.length a2.2:Int)),[]⟩,⟨8,[],fun vs=>Bh (I (w64 ((List.length a2.2:Int) - 1))),[]⟩] [[],[1],[3],[],[6],[7]] 2 z (by kernel_rfl) (by kernel_rfl) z ?_ ?_
    ·refine An z ?_ ?_
     ·intro w5 hB5
      refine Ar<|⟨_,z,?_⟩
      exact Ao (hC4.grow hB5) 1 z z AQ z z<|Ac<|Ay (Al _ _) z z ⟨z,z⟩
     refine An z ?_ ?_
     ·intro w5 hB5
      refine AK z z z ?_
      rintro _ _ ⟨rfl,rfl⟩ _
      refine Ar<|⟨_,z,?_⟩
      exact AG Ah ty3 g1 hx1 z z z fun b3 o1 h1=>Ac<|Ay (Al _ _) z z ⟨z,_,_,z,h1⟩
     refine An z ?_ ?_
     ·intro w5 hB5
      refine AK z z z ?_
      rintro _ _ ⟨rfl,b3,o1,rfl,h1⟩ _
      refine Ar<|⟨_,z,?_⟩
      refine A3 ty3 h1 (hC4.keep.then hB5) z z (fun v1 h2=>?_)
      obtain rfl:=Bn h2
      exact Ac<|Ay (Al _ _) z z ⟨z,z⟩
     refine An z ?_ ?_
     ·intro w5 hB5
      refine Ar<|⟨_,z,?_⟩
      exact Ao (hC4.grow hB5) 0 z z AQ z z<|Ac<|Ay (Al _ _) z z ⟨z,z⟩
     refine An z ?_ ?_
     ·intro w5 hB5
      refine AK z z z ?_
      rintro _ _ ⟨rfl,rfl⟩ _
      refine Ar<|⟨_,z,?_⟩
      exact AZ Ah g2 z z<|Ac<|Ay (Al _ _) z z ⟨z,z⟩
     refine An z ?_ ?_
     ·intro w5 hB5
      refine AK z z z ?_
      rintro _ _ ⟨rfl,rfl⟩ _
      refine Ar<|⟨_,z,?_⟩
      exact BN z z z<|Ac<|Ay (Al _ _) z z ⟨z,z⟩
     exact Bp
    intro w6 hB6
    refine At z z z ?_
    rintro _ _ ⟨rfl,rfl⟩
    refine At z z z ?_
    rintro _ _ ⟨rfl,b3,o1,rfl,h1⟩
    refine At z z z ?_
    rintro _ _ ⟨rfl,rfl⟩
    refine At z z z ?_
    rintro _ _ ⟨rfl,rfl⟩
    refine At z z z ?_
    rintro _ _ ⟨rfl,rfl⟩
    refine At z z z ?_
    rintro _ _ ⟨rfl,rfl⟩
    refine B0 fun hn1 hb1=>have hC5:=hC4.grow hB6;be hL1 fun x3 hr2 hL1=>oe 9 z<|cb B9 z z (c_S_l1In x2 0 (w64 ((List.length a2.2:Int) - 1)) x3 hr2) fun w7 hB7=>have hC6:=hC5.grow hB7;Ac<|tk 10 z z (Cm z)<|Bx z z<|Ac<|dn<|Am<|AI z (fun hc3=>?_) (fun hc3=>?_)
    ·replace hL1:=AC hL1 hc3
     refine Ad<|Ae z z<|Ac<|AP<|Az<|Bk<|Az<|Az<|Bk<|Az<|Az<|?_
     obtain rfl:=Aa hL1
     dsimp only at hF
     obtain rfl:=Aa hF
     exact A8 z z<|⟨_,z,AR hC6 _⟩
    replace hL1:=AD hL1 hc3
    refine AJ<|Am<|A6<|B1 10 z hmix fun w9 hB8=>have hC7:=hC6.grow hB8;tf 0 AB Aw z z z z z<|tf 2 AN Aw z z z z z<|tm 4 z z z<|be hL1 fun x4 hx2 hL1=>wAS (l':=[(2,u3),(3,(ptr b1 0)),(4,(ptr b2 0)),(7,(I x1)),(14,(I x1)),(15,(ptr b1 1)),(16,u1),(17,(I (List.length a1.2.1:Int))),(18,(.bool (decide (x1 < (List.length a1.2.1:Int))))),(21,(ptr b1 1)),(22,u1),(23,(I x1)),(24,(ptr b3 o1)),(25,(I x2)),(26,(ptr b2 1)),(27,u2),(28,(I (List.length a2.2:Int))),(29,(I (w64 ((List.length a2.2:Int) - 1)))),(30,(.bool x3)),(31,(.bool (!x3))),(32,(ptr b2 1)),(34,(ptr b1 1)),(36,(I x1))]) ⟨z,z,z,z,z,z,z,z,z,z,z,z,z,z,z,z,z,z,z,z,z,z,z,Ai⟩<|Bw [⟨1,[],fun vs=>Bh u2,[]⟩,⟨3,[],fun vs=>Bh u1,[]⟩,⟨5,[],fun vs=>Ci [] w0 x4,[]⟩,⟨6,[],fun vs=>Bh (I x4),[]⟩] [[],[],[3],[5]] 3 z (by kernel_rfl) (by kernel_rfl) z ?_ ?_
    ·refine An z ?_ ?_
     ·intro w10 hB9
      refine Ar<|⟨_,z,?_⟩
      exact Ao (hC7.grow hB9) 0 z z AQ z z<|Ac<|Ay (Al _ _) z z ⟨z,z⟩
     refine An z ?_ ?_
     ·intro w10 hB9
      refine Ar<|⟨_,z,?_⟩
      exact Ao (hC7.grow hB9) 1 z z AQ z z<|Ac<|Ay (Al _ _) z z ⟨z,z⟩
     refine An z ?_ ?_
     ·intro w10 hB9
      refine AK z z z ?_
      rintro _ _ ⟨rfl,rfl⟩ _
      refine Ar<|⟨_,z,?_⟩
      exact AG Ah ty3 g1 hx2 z z z fun b4 o2 h3=>Ac<|Ay (Al _ _) z z ⟨z,_,_,z,h3⟩
     refine An z ?_ ?_
     ·intro w10 hB9
      refine AK z z z ?_
      rintro _ _ ⟨rfl,b4,o2,rfl,h3⟩ _
      refine Ar<|⟨_,z,?_⟩
      refine A3 ty3 h3 (hC7.keep.then hB9) z z (fun v2 h4=>?_)
      obtain rfl:=Bn h4
      exact Ac<|Ay (Al _ _) z z ⟨z,z⟩
     exact Bp
    intro w11 hB10
    refine At z z z ?_
    rintro _ _ ⟨rfl,rfl⟩
    refine At z z z ?_
    rintro _ _ ⟨rfl,rfl⟩
    refine At z z z ?_
    rintro _ _ ⟨rfl,b4,o2,rfl,h3⟩
    refine At z z z ?_
    rintro _ _ ⟨rfl,rfl⟩
    refine B0 fun hn2 hb2=>have hC8:=hC7.grow hB10;be hL1 fun x5 hx3 hL1=>tk 7 z z (B4 Ah ty3 g2 hx3 z z)<|AG Ah ty3 g2 hx3 z z z fun b5 o3 h5=>Ac<|oe 8 z<|A3 ty3 h5 hC8.keep z z fun v3 h6=>?_
    obtain rfl:=Bn h6
    refine Ac<|ta 9 z z z<|dn<|Am<|be hL1 fun r2 hr3 hL1=>BA (fun l w=>∃x6:Bool,x6=r2∧l=[(2,u3),(3,(ptr b1 0)),(4,(ptr b2 0)),(7,(I x1)),(48,(.bool x6))]∧Below w11.heap.size w11 w∧Ctx [] w0 w [Af b2 [(I a2.1),u2],Af b1 [(I a1.1),u1,(I a1.2.2.1),(I a1.2.2.2.1),(I a1.2.2.2.2)]]) ?_ ?_
    ·refine Bb<|Ag z z<|be hr3 fun x7 hr4 hr3=>cb CC z z (c_S_IsVar x5 x7 hr4) fun w13 hB12=>have hC10:=hC8.grow hB12;Ag z z<|Br (fun hc4=>?_) (fun hc4=>?_)
     ·replace hr3:=AC hr3 hc4
      refine Aj z z<|Ag z z<|Aj z z<|Ag z z<|be hr3 fun x8 hr5 hr3=>Aj z z<|cb Cl z z (c_S_l2Has a3 u3 (g3.now hC10.keep) x5 x8 hr5) fun w14 hB13=>have hC11:=hC10.grow hB13;Aj z z<|Bx z z<|AV z z z<|Ac<|?_
      obtain rfl:=Aa hr3
      exact Ak (l':=[(2,u3),(3,(ptr b1 0)),(4,(ptr b2 0)),(7,(I x1)),(48,(.bool (!x8)))]) ⟨z,z,z,z,z,Ai⟩<|⟨(!x8),z,z,((Ap hB12).then hB13).below,hC11⟩
     replace hr3:=AD hr3 hc4
     refine gs z z z z<|gs z z z z<|gs z z z z<|gs z z z z<|AS z z z<|Ac<|?_
     obtain rfl:=Aa hr3
     exact Ak (l':=[(2,u3),(3,(ptr b1 0)),(4,(ptr b2 0)),(7,(I x1)),(48,(.bool false))]) ⟨z,z,z,z,z,Ai⟩<|⟨false,z,z,(Ap hB12).below,hC10⟩
    rintro _ w12 ⟨x6,rfl,rfl,hB11,hC9⟩
    try dsimp only at hL1
    refine AI z (fun hc5=>?_) (fun hc5=>?_)
    ·replace hL1:=AC hL1 hc5
     refine Ad<|Ae z z<|Ac<|AP<|Bk<|Az<|Az<|Bk<|Az<|Az<|?_
     obtain rfl:=Aa hL1
     dsimp only at hF
     obtain rfl:=Aa hF
     exact A8 z z<|⟨_,z,AR hC9 _⟩
    replace hL1:=AD hL1 hc5
    exact AJ<|AM<|Am<|Bb<|Ag z z<|Bj z z z<|Ae z z<|Ac<|Ak (l':=[(2,u3),(3,(ptr b1 0)),(4,(ptr b2 0)),(7,(I (w64 (x1+1))))]) ⟨z,z,z,z,Ai⟩<|⟨k1,Av _,w64 (x1+1),z,(((((((Ap hB3).then hB4).then hB6).then hB7).then hB8).then hB10).then hB11).below,hC9,hL1⟩
   replace hL1:=AD hL1 hc2
   refine Bt (A1 (A1 (Be ?_)))
   obtain rfl:=Aa hL1
   have hC12:=hC3.h0
   exact Ak (l':=[]) Ai<|⟨z,z,(Ap hB3).below,hC12⟩
 rintro l3 _ w15 hs3 ⟨rfl,rfl,hB14,hC13⟩
 try dsimp only at hF
 refine AL hs3 ?_
 clear hs3
 refine Ad<|Ae z z<|Ac<|AP<|?_
 obtain rfl:=Aa hF
 exact A8 z z<|⟨_,z,AR hC13 _⟩
theorem c_S_l6Bind {w0:World} (a1:(List Int)) (u1:Value) (g1:RO [] w0 u1 a1) (a2:(Int × (List Int))) (u2:Value) (g2:RO [] w0 u2 a2.2) (rr:(List Int)) (hF:S.l6Bind a1 a2=some rr) :
 Calls Tryz.prog 57 [u1,(.agg #[(I a2.1),u2])].toArray w0 fun e w'=>∃v,e=.returned v∧Res w0 rr v w':=by
 refine Au Tryz.func57 z z ?_
 have hC0:=AA w0
 unfold S.l6Bind at hF
 refine Ad<|Bv (cs:=[(I a2.1),u2]) hC0 z z z fun b1 w1 hC1 hB1 hN1=>Ae z z<|Ac<|Ad<|A2 (vs:=[]) hC1 Ah ty3 z z z z (by simp) z z fun b2 w2 hC2 hB2=>?_
 have hC3:=hC2.row0 (α:=Int)
 have hC4:=hC3.front 1 z
 dsimp only [List.eraseIdx,List.cons_append,List.nil_append,List.append_nil] at hC4
 have hC5:Ctx [] w0 w2 (Ab (.slice (some ⟨b2,0,none⟩) 0 0) (([]:List Int):List Int)::[Af b1 [(I a2.1),u2]]):=hC4.rowOwn (by simp [maxLen])
 refine Ag z z<|be hF fun x1 hx1 hF=>Bi (α:=Int) hC5 0 z g1 hC5.keep Ah ty3 z hx1 z z z fun v1 w3 hC6=>?_
 try dsimp only [List.set] at hC6
 refine Ae z z<|Ac<|A6<|Ad<|Ae z z<|Ac<|be hF fun r1 hr1 hF=>Bd (fun l w=>∃v3:Value,∃x4:(List Int),x4=r1∧l=[(5,v3)]∧Ctx [] w0 w [Ab v3 (x4:(List Int))]) ?_ ?_
 ·refine AH<|wS (l':=[(3,(ptr b1 0)),(5,v1),(6,(I 0))]) ⟨z,z,z,Ai⟩<|Bu (fun k l w=>∃v2:Value,∃x2:(List Int),∃x3:Int,l=[(3,(ptr b1 0)),(5,v2),(6,(I x3))]∧Ctx [] w0 w [Ab v2 (x2:(List Int)),Af b1 [(I a2.1),u2]]∧S.l6Bind_l1 a2 k x2 x3=some r1) FUEL ⟨v1,x1,0,z,hC6,hr1⟩<|?_
  clear hr1
  rintro k1 _ w4 ⟨v2,x2,x3,rfl,hC7,hL1⟩
  cases k1 with
  | zero=>rw [S.l6Bind_l1] at hL1; cases hL1
  | succ k1 =>
   rw [S.l6Bind_l1] at hL1
   refine A6<|Ad<|Ag z z<|fd AB Aw z z z z<|Ao hC7 1 z z AQ z z<|AZ Ah g2 z z<|Bo z z z<|Ac<|AI z (fun hc1=>?_) (fun hc1=>?_)
   ·replace hL1:=AC hL1 hc1
    refine AJ<|Am<|A6<|AH<|Ad<|fd AB Aw z z z z<|Ao hC7 1 z z AQ z z<|Ag z z<|be hL1 fun x5 hx2 hL1=>AG Ah ty3 g2 hx2 z z z fun b3 o1 h1=>A3 ty3 h1 hC7.keep z z fun v4 h2=>?_
    obtain rfl:=Bn h2
    refine be hL1 fun x6 hr2 hL1=>cb CC z z (c_S_IsVar x5 x6 hr2) fun w5 hB4=>have hC8:=hC7.grow hB4;Ac<|be hL1 fun r2 hr3 hL1=>Bd (fun l w=>∃v5:Value,∃x7:(List Int),x7=r2∧l=[(3,(ptr b1 0)),(5,v5),(6,(I x3))]∧Ctx [] w0 w [Ab v5 (x7:(List Int)),Af b1 [(I a2.1),u2]]) ?_ ?_
    ·refine AI z (fun hc2=>?_) (fun hc2=>?_)
     ·replace hr3:=AC hr3 hc2
      refine Bb<|Ag z z<|fd AB Aw z z z z<|Ao hC8 1 z z AQ z z<|Ag z z<|be hr3 fun x8 hx3 hr3=>AG Ah ty3 g2 hx3 z z z fun b4 o2 h3=>A3 ty3 h3 hC8.keep z z fun v6 h4=>?_
      obtain rfl:=Bn h4
      obtain ⟨x9,hr4,hr3⟩:=BX hr3
      obtain ⟨Fs1,hH1,hn1,hF1,hO1,hb1⟩:=AW (As:=[Af b1 [(I a2.1),u2]]) [Ab v2 (x2:(List Int))] hC8
      refine A7 C2 z z (c_S_l3Put_own x2 v2 x8 hH1 hn1 x9 hr4) ?_
      rintro v7 w7 ⟨_,rfl,hq1⟩
      have hC11:Ctx [] w0 w7 [Ab v7 (x9:(List Int)),Af b1 [(I a2.1),u2]]:=hb1 _ _ hq1
      refine Ae z z<|Ac<|?_
      obtain rfl:=Aa hr3
      exact Ak (l':=[(3,(ptr b1 0)),(5,v7),(6,(I x3))]) ⟨z,z,z,Ai⟩<|⟨v7,x9,z,z,hC11⟩
     replace hr3:=AD hr3 hc2
     refine AJ ?_
     obtain rfl:=Aa hr3
     exact Ak (l':=[(3,(ptr b1 0)),(5,v2),(6,(I x3))]) ⟨z,z,z,Ai⟩<|⟨v2,x2,z,z,hC8⟩
    rintro l2 _ w6 hs2 ⟨v5,x7,rfl,rfl,hC9⟩
    try dsimp only at hL1
    refine AM<|AL hs2<|?_
    clear hs2
    exact Bb<|Ag z z<|Bj z z z<|Ae z z<|Ac<|Ak (l':=[(3,(ptr b1 0)),(5,v5),(6,(I (w64 (x3+1))))]) ⟨z,z,z,Ai⟩<|⟨k1,Av _,v5,x7,w64 (x3+1),z,hC9,hL1⟩
   replace hL1:=AD hL1 hc1
   refine Bt (A1 (A1 (Be ?_)))
   obtain rfl:=Aa hL1
   have hC12:=hC7.h1
   exact Ak (l':=[(5,v2)]) ⟨z,Ai⟩<|⟨v2,x2,z,z,hC12⟩
 rintro l3 _ w9 hs3 ⟨v3,x4,rfl,rfl,hC13⟩
 try dsimp only at hF
 refine AL hs3 ?_
 clear hs3
 refine Ad<|Ag z z<|Ae z z<|Ac<|AP<|?_
 obtain rfl:=Aa hF
 exact A8 z z<|⟨_,z,Co hC13 0 z⟩
end Go.Gx.Px
