/- The contracts of the Go functions against the pure functions, printed by program. Conditions: each says them. -/
import Derived.Test.YtngpabaocflipaaGreatTy
import Derived.Test.YtngpabaocflipaaGreatGxZn
import Derived.Test.YtngpabaocflipaaGreatPure
set_option linter.unusedVariables false
set_option linter.unusedSimpArgs false
set_option maxRecDepth 100000
set_option maxHeartbeats 4000000
namespace Go.Gx.Px
open Go.Proofs Go.RowKit
namespace K9
abbrev I (x : Int) : Value := .int .i64 x
abbrev Aa:=@Option.some.inj
abbrev Ab:=@WL_nil
abbrev Ac:=@W_seq_reg
abbrev Ad:=@WL_assign
abbrev Ae:=@WL_move
abbrev Af:=@Item.own
abbrev Ag:=@Item.box
abbrev Ah:=@WL_guard
abbrev Ai:=@Tryz.underlying31
abbrev Aj:=@trivial
abbrev Ak:=@Tryz.underlying24
abbrev Al:=@Below.refl
abbrev Am:=@nrm_sub
abbrev An:=@StepsE_cons
abbrev Ao:=@Keep.of
abbrev Ap:=@nrm_normal
abbrev Aq:=@WL_load_box
abbrev Ar:=@AllE_cons
abbrev At:=@DepsE_nil
abbrev Au:=@WL_load_box_agg
abbrev Av:=@nrm_ret
abbrev Aw:=@FinE_val
abbrev Ax:=@calls_of_W
abbrev Ay:=@Tryz.sizeOf3
abbrev Az:=@Tryz.sizeOf24
abbrev A0:=@Tryz.underlying26
abbrev A1:=@Keep.refl
abbrev A2:=@fn_ret1
abbrev A3:=@Nat.lt_succ_self
abbrev A4:=@Tryz.underlying88
abbrev A5:=@Ctx.start
abbrev A6:=@W_seq
abbrev A7:=@ite_t
abbrev A8:=@ite_f
abbrev A9:=@nrm_exit
abbrev AA:=@WL_store_box_aggK
abbrev AB:=@Tryz.underlying93
abbrev AC:=@WL_buildSlice
abbrev AD:=@DepsE_cons
abbrev AE:=@W_cond
abbrev AF:=@W_skip
abbrev AG:=@WL_call
abbrev AH:=@WL_index
abbrev AI:=@WL_load
abbrev AJ:=@W_block
abbrev AK:=@Tryz.underlying46
abbrev AL:=@W_ret
abbrev AM:=@Tryz.isAgg24
abbrev AN:=@bool_res
abbrev AO:=@Keep.over
abbrev AP:=@Tryz.sizeOf88
abbrev AQ:=@Tryz.underlying44
abbrev AR:=@Tryz.isAgg3
abbrev AS:=@Nat.le_trans
abbrev AT:=@Tryz.sizeOf46
abbrev AU:=@blk_normal
abbrev AV:=@Tryz.sizeOf44
abbrev AW:=@WL_pick_t
abbrev AX:=@Ctx.lend2
abbrev AY:=@nrm_sub'
abbrev AZ:=@WL_pick_f
abbrev Ba:=@PW.val
abbrev Bb:=@Tryz.underlying131
abbrev Bc:=@WL_len
abbrev Bd:=@blk_ret
abbrev Be:=@Tryz.underlying25
abbrev Bf:=@RO.lent
abbrev Bg:=@W_reg
abbrev Bh:=@WL_extract
abbrev Bi:=@W_norm
abbrev Bj:=@StepsE_nil
abbrev Bk:=@blk_exit
abbrev Bl:=@Tryz.isAgg88
abbrev Bm:=@Tryz.isAgg46
abbrev Bn:=@WL_add
abbrev Bo:=@Tryz.call120
abbrev Bp:=@Tryz.sizeOf31
abbrev Bq:=@WA_postsE
abbrev Br:=@WL_boxK
abbrev Bt:=@AllE_nil
abbrev Bu:=@Tryz.isAgg44
abbrev Bv:=@WL_lss
abbrev Bw:=@WL_allocK
abbrev Bx:=@int_val
abbrev By:=@WL_append_head
abbrev Bz:=@WL_fork
abbrev B0:=@ro_one
abbrev B1:=@W_exit
abbrev B2:=@W_loop
abbrev B3:=@WL_not
abbrev B4:=@int_res
abbrev B5:=@Tryz.underlying39
abbrev B6:=@Tryz.sizeOf93
abbrev B7:=@ro_cells
abbrev B8:=@ro_int
abbrev B9:=@WL_store_boxK
abbrev BA:=@Tryz.isAgg31
abbrev BB:=@fl_field
abbrev BC:=@WA_fork
abbrev BD:=@ro_st88
abbrev BE:=@Ctx.startIn
abbrev BF:=@WL_append_flat
abbrev BG:=@fl_index
abbrev BH:=@WL_build
abbrev BI:=@W_cut
abbrev BJ:=@Tryz.underlying4
abbrev BK:=@Tryz.underlying145
abbrev BL:=@Tryz.call136
abbrev BM:=@WL_eql
abbrev BN:=@Tryz.call122
abbrev BO:=@own_st46
abbrev BP:=@WL_makeFunc
abbrev BQ:=@Tryz.isAgg93
abbrev BR:=@WL_sub
abbrev BS:=@Tryz.call173
abbrev BT:=@WL_callv
abbrev BU:=@res_bool
abbrev BV:=@Tryz.underlying22
abbrev BW:=@Tryz.call147
abbrev BX:=@Tryz.call73
abbrev BY:=@own_res
abbrev BZ:=@PW.at
abbrev Ca:=@WL_gtr
abbrev Cb:=@WL_nilCheck
abbrev Cc:=@own_st88
abbrev Cd:=@fl_build
abbrev Ce:=@PW.ro
abbrev Cf:=@WL_geq
abbrev Cg:=@fl_pick_t
abbrev Ch:=@WL_neq
abbrev Ci:=@fl_pick_f
abbrev Cj:=@Tryz.func126
abbrev Ck:=@Tryz.call126
abbrev Cl:=@fl_not
abbrev Cm:=@nrm_subs
abbrev Cn:=@WA_all2
abbrev Co:=@Tryz.call78
abbrev Cp:=@WL_leq
abbrev Cq:=@fn_retG1
abbrev Cr:=@ro_st46
abbrev Cs:=@Tryz.sizeOf131
abbrev Ct:=@fl_sub
abbrev Cu:=@Tryz.underlying3
abbrev Cv:=@fl_nilCheck
abbrev Cw:=@Tryz.call18
abbrev Cx:=@Tryz.call171
abbrev Cy:=@Tryz.isAgg25
abbrev Cz:=@fl_move
abbrev C0:=@W_cond_t
abbrev C1:=@W_cond_f
abbrev C2:=@bool_val
abbrev C3:=@Tryz.call69
abbrev C4:=@Tryz.call65
abbrev C5:=@Tryz.call64
abbrev C6:=@WL_sl_l
abbrev C7:=@Tryz.call29
abbrev C8:=@Tryz.call30
abbrev C9:=@Tryz.call15
abbrev CA:=@WL_load_pair1_agg
abbrev CB:=@WL_bool_eql
abbrev CC:=@Tryz.underlying5
abbrev CD:=@bind_some
abbrev CE:=@ro_st93
abbrev CF:=@Tryz.call131
abbrev CG:=@fn_ret3
abbrev CH:=@Tryz.func205
abbrev CI:=@Tryz.func182
abbrev CJ:=@Tryz.call205
abbrev CK:=@Tryz.call182
abbrev CL:=@Tryz.call132
abbrev CM:=@Tryz.call185
abbrev CN:=@Tryz.call128
abbrev CO:=@WL_index_raw
abbrev CP:=@Tryz.call125
abbrev CQ:=@Item.rhole
abbrev CR:=@fl_eql
abbrev CS:=@Tryz.call81
abbrev CT:=@Tryz.call70
abbrev CU:=@PW.own
abbrev CV:=@Tryz.call92
abbrev CW:=@Tryz.func93
abbrev CX:=@Tryz.call93
abbrev CY:=@Tryz.call27
abbrev CZ:=@fl_bool_eql
abbrev Da:=@FinE_ctx
abbrev Db:=@FinE_own
abbrev Dc:=@ro_st131
abbrev Dd:=@fl_gtr
abbrev De:=@fl_neq
abbrev Df:=@fl_len
end K9
open K9
theorem c_Q_big {w0:World} (a1:(List UInt8)) (u1:Value) (g1:RO [] w0 u1 a1) (rr:Bool) (hF:Q.big a1=some rr) :
 Calls Tryz.prog 9 [u1].toArray w0 fun e w'=>∃v,e=.returned v∧Res w0 rr v w':=by
 refine Ax Tryz.func9 z z ?_
 have hC0:=A5 w0
 unfold Q.big at hF
 refine Ac<|Ad z z<|Ab<|Ac<|Ae z z<|Bc BV g1 z z<|Ca z z z<|Ad z z<|Ab<|AL<|?_
 obtain rfl:=Aa hF
 exact A2 z z<|⟨_,z,AN hC0 _⟩
theorem c_S_l1In {w0:World} (a1:Int) (a2:Int) (a3:Int) (rr:Bool) (hF:S.l1In a1 a2 a3=some rr) :
 Calls Tryz.prog 136 [(I a1),(I a2),(I a3)].toArray w0 fun e w'=>∃v,e=.returned v∧Res w0 rr v w':=by
 refine Ax Tryz.func136 z z ?_
 have hC0:=A5 w0
 unfold S.l1In at hF
 refine Ac<|Ad z z<|Ab<|be hF fun r1 hr1 hF=>BI (fun l w=>∃x1:Bool,x1=r1∧l=[(6,(.bool x1))]∧Below w0.heap.size w0 w∧Ctx [] w0 w []) ?_ ?_
 ·refine Bg<|Ae z z<|Ae z z<|Cf z z z<|Ae z z<|Bz (fun hc1=>?_) (fun hc1=>?_)
  ·replace hr1:=A7 hr1 hc1
   refine Ah z z<|Ae z z<|Ah z z<|Ae z z<|Ah z z<|Cp z z z<|AW z z z<|Ad z z<|Ab<|?_
   obtain rfl:=Aa hr1
   exact Am (l':=[(6,(.bool (decide (a1 ≤ a3))))]) ⟨z,Aj⟩<|⟨(decide (a1 ≤ a3)),z,z,(Al _ _),hC0⟩
  replace hr1:=A8 hr1 hc1
  refine gs z z z z<|gs z z z z<|gs z z z z<|AZ z z z<|Ad z z<|Ab<|?_
  obtain rfl:=Aa hr1
  exact Am (l':=[(6,(.bool false))]) ⟨z,Aj⟩<|⟨false,z,z,(Al _ _),hC0⟩
 rintro _ w1 ⟨x1,rfl,rfl,hB1,hC1⟩
 try dsimp only at hF
 refine AL ?_
 obtain rfl:=Aa hF
 exact A2 z z<|⟨_,z,AN hC1 _⟩
theorem c_S_IsSchema {w0:World} (a1:(List Int)) (u1:Value) (g1:RO [] w0 u1 a1) (rr:Bool) (hF:S.IsSchema a1=some rr) :
 Calls Tryz.prog 73 [u1].toArray w0 fun e w'=>∃v,e=.returned v∧Res w0 rr v w':=by
 refine Ax Tryz.func73 z z ?_
 have hC0:=A5 w0
 unfold S.IsSchema at hF
 refine Ac<|Ad z z<|Ab<|A6<|Ac<|Ad z z<|Ab<|be hF fun r1 hr1 hF=>Bi (fun l w=>.inl ()=r1∧l=[(0,u1)]∧Below w0.heap.size w0 w∧Ctx [] w0 w []) ?_ ?_
 ·refine AJ<|wS (l':=[(0,u1),(3,(I 0))]) ⟨z,z,Aj⟩<|B2 (fun k l w=>∃x1:Int,l=[(0,u1),(3,(I x1))]∧Below w0.heap.size w0 w∧Ctx [] w0 w []∧S.IsSchema_l1 a1 k x1=some r1) FUEL ⟨0,z,(Al _ _),hC0,hr1⟩<|?_
  clear hr1
  rintro k1 _ w1 ⟨x1,rfl,hB1,hC1,hL1⟩
  cases k1 with
  | zero=>rw [S.IsSchema_l1] at hL1; cases hL1
  | succ k1 =>
   rw [S.IsSchema_l1] at hL1
   refine A6<|Ac<|Ae z z<|Ae z z<|Bc Ak g1 z z<|Bv z z z<|Ab<|AE z (fun hc1=>?_) (fun hc1=>?_)
   ·replace hL1:=A7 hL1 hc1
    refine AF<|Ap<|A6<|AJ<|Ac<|Ae z z<|Ae z z<|be hL1 fun x2 hx1 hL1=>AH Ak ty3 g1 hx1 z z z fun b1 o1 h1=>AI ty3 h1 hC1.keep z z fun v1 h2=>?_
    obtain rfl:=B8 h2
    refine be hL1 fun x3 hr2 hL1=>cb BL z z (c_S_l1In x2 1 3 x3 hr2) fun w2 hB2=>have hC2:=hC1.grow hB2;B3 z z<|Ab<|AE z (fun hc2=>?_) (fun hc2=>?_)
    ·replace hL1:=A7 hL1 hc2
     refine Ac<|Ad z z<|Ab<|AL<|Bd<|Av<|Av<|Bd<|Av<|Av<|?_
     obtain rfl:=Aa hL1
     dsimp only at hF
     obtain rfl:=Aa hF
     exact A2 z z<|⟨_,z,AN hC2 _⟩
    replace hL1:=A8 hL1 hc2
    exact AF<|AU<|Ap<|Bg<|Ae z z<|Bn z z z<|Ad z z<|Ab<|Am (l':=[(0,u1),(3,(I (w64 (x1+1))))]) ⟨z,z,Aj⟩<|⟨k1,A3 _,w64 (x1+1),z,((Ao hB1).then hB2).below,hC2,hL1⟩
   replace hL1:=A8 hL1 hc1
   refine B1 (A9 (A9 (Bk ?_)))
   obtain rfl:=Aa hL1
   exact Am (l':=[(0,u1)]) ⟨z,Aj⟩<|⟨z,z,(Ao hB1).below,hC1⟩
 rintro l2 _ w3 hs2 ⟨rfl,rfl,hB3,hC3⟩
 try dsimp only at hF
 refine AY hs2 ?_
 clear hs2
 refine Ac<|Ae z z<|Bc Ak g1 z z<|be hF fun x4 hr3 hF=>cb BL z z (c_S_l1In (List.length a1:Int) 1 3 x4 hr3) fun w4 hB4=>have hC4:=hC3.grow hB4;Ad z z<|Ab<|AL<|?_
 obtain rfl:=Aa hF
 exact A2 z z<|⟨_,z,AN hC4 _⟩
theorem c_S_IsMethod {w0:World} (a1:(List Int)) (u1:Value) (g1:RO [] w0 u1 a1) (a2:(Int × (List Int) × Int × Int × Int)) (u2:Value) (g2:RO [] w0 u2 a2.2.1) (rr:Bool) (hF:S.IsMethod a1 a2=some rr) :
 Calls Tryz.prog 72 [u1,(.agg #[(I a2.1),u2,(I a2.2.2.1),(I a2.2.2.2.1),(I a2.2.2.2.2)])].toArray w0 fun e w'=>∃v,e=.returned v∧Res w0 rr v w':=by
 refine Ax Tryz.func72 z z ?_
 have hC0:=A5 w0
 unfold S.IsMethod at hF
 refine Ac<|Br (cs:=[(I a2.1),u2,(I a2.2.2.1),(I a2.2.2.2.1),(I a2.2.2.2.2)]) hC0 z z z fun b1 w1 hC1 hB1 hN1=>Ad z z<|Ab<|A6<|be hF fun r1 hr1 hF=>BI (fun l w=>∃x1:Bool,x1=r1∧l=[(0,u1),(3,(ptr b1 0)),(35,(.bool x1))]∧Below w1.heap.size w1 w∧Ctx [] w0 w [Ag b1 [(I a2.1),u2,(I a2.2.2.1),(I a2.2.2.2.1),(I a2.2.2.2.2)]]) ?_ ?_
 ·refine Bg<|Ae z z<|be hr1 fun x2 hr2 hr1=>cb BX z z (c_S_IsSchema a1 u1 (g1.now hC1.keep) x2 hr2) fun w3 hB3=>have hC3:=hC1.grow hB3;B3 z z<|Ae z z<|Bz (fun hc1=>?_) (fun hc1=>?_)
  ·replace hr1:=A7 hr1 hc1
   refine gs z z z z<|gs z z z z<|gs z z z z<|gs z z z z<|gs z z z z<|gs z z z z<|gs z z z z<|AW z z z<|Ae z z<|gs z z z z<|gs z z z z<|gs z z z z<|gs z z z z<|AW z z z<|Ae z z<|gs z z z z<|gs z z z z<|gs z z z z<|gs z z z z<|AW z z z<|Ae z z<|gs z z z z<|gs z z z z<|gs z z z z<|gs z z z z<|AW z z z<|Ab<|?_
   obtain rfl:=Aa hr1
   exact Am (l':=[(0,u1),(3,(ptr b1 0)),(35,(.bool true))]) ⟨z,z,z,Aj⟩<|⟨true,z,z,(Ao hB3).below,hC3⟩
  replace hr1:=A8 hr1 hc1
  refine Ah z z<|fd AB Ay z z z z<|Ah z z<|Aq hC3 0 z z AR z z<|Ah z z<|Ae z z<|Ah z z<|Bc Ak g1 z z<|Ah z z<|BR z z z<|be hr1 fun x3 hr3 hr1=>Ah z z<|cb BL z z (c_S_l1In a2.1 0 (w64 ((List.length a1:Int) - 1)) x3 hr3) fun w4 hB4=>have hC4:=hC3.grow hB4;Ah z z<|B3 z z<|AZ z z z<|Ae z z<|Bz (fun hc2=>?_) (fun hc2=>?_)
  ·replace hr1:=A7 hr1 hc2
   refine gs z z z z<|gs z z z z<|gs z z z z<|gs z z z z<|AW z z z<|Ae z z<|gs z z z z<|gs z z z z<|gs z z z z<|gs z z z z<|AW z z z<|Ae z z<|gs z z z z<|gs z z z z<|gs z z z z<|gs z z z z<|AW z z z<|Ab<|?_
   obtain rfl:=Aa hr1
   exact Am (l':=[(0,u1),(3,(ptr b1 0)),(35,(.bool true))]) ⟨z,z,z,Aj⟩<|⟨true,z,z,((Ao hB3).then hB4).below,hC4⟩
  replace hr1:=A8 hr1 hc2
  refine Ah z z<|fd AB Ay z z z z<|Ah z z<|Aq hC4 0 z z AR z z<|be hr1 fun x4 hr4 hr1=>Ah z z<|cb BL z z (c_S_l1In a2.2.2.1 0 9 x4 hr4) fun w5 hB5=>have hC5:=hC4.grow hB5;Ah z z<|B3 z z<|AZ z z z<|Ae z z<|Bz (fun hc3=>?_) (fun hc3=>?_)
  ·replace hr1:=A7 hr1 hc3
   refine gs z z z z<|gs z z z z<|gs z z z z<|gs z z z z<|AW z z z<|Ae z z<|gs z z z z<|gs z z z z<|gs z z z z<|gs z z z z<|AW z z z<|Ab<|?_
   obtain rfl:=Aa hr1
   exact Am (l':=[(0,u1),(3,(ptr b1 0)),(35,(.bool true))]) ⟨z,z,z,Aj⟩<|⟨true,z,z,(((Ao hB3).then hB4).then hB5).below,hC5⟩
  replace hr1:=A8 hr1 hc3
  refine Ah z z<|fd AB Ay z z z z<|Ah z z<|Aq hC5 0 z z AR z z<|be hr1 fun x5 hr5 hr1=>Ah z z<|cb BL z z (c_S_l1In a2.2.2.2.1 0 99 x5 hr5) fun w6 hB6=>have hC6:=hC5.grow hB6;Ah z z<|B3 z z<|AZ z z z<|Ae z z<|Bz (fun hc4=>?_) (fun hc4=>?_)
  ·replace hr1:=A7 hr1 hc4
   refine gs z z z z<|gs z z z z<|gs z z z z<|gs z z z z<|AW z z z<|Ab<|?_
   obtain rfl:=Aa hr1
   exact Am (l':=[(0,u1),(3,(ptr b1 0)),(35,(.bool true))]) ⟨z,z,z,Aj⟩<|⟨true,z,z,((((Ao hB3).then hB4).then hB5).then hB6).below,hC6⟩
  replace hr1:=A8 hr1 hc4
  refine Ah z z<|fd AB Ay z z z z<|Ah z z<|Aq hC6 0 z z AR z z<|be hr1 fun x6 hr6 hr1=>Ah z z<|cb BL z z (c_S_l1In a2.2.2.2.2 1 99 x6 hr6) fun w7 hB7=>have hC7:=hC6.grow hB7;Ah z z<|B3 z z<|AZ z z z<|Ab<|?_
  obtain rfl:=Aa hr1
  exact Am (l':=[(0,u1),(3,(ptr b1 0)),(35,(.bool (!x6)))]) ⟨z,z,z,Aj⟩<|⟨(!x6),z,z,(((((Ao hB3).then hB4).then hB5).then hB6).then hB7).below,hC7⟩
 rintro _ w2 ⟨x1,rfl,rfl,hB2,hC2⟩
 try dsimp only at hF
 refine AE z (fun hc5=>?_) (fun hc5=>?_)
 ·replace hF:=A7 hF hc5
  refine Ac<|Ad z z<|Ab<|AL<|Av<|?_
  obtain rfl:=Aa hF
  exact A2 z z<|⟨_,z,AN hC2 _⟩
 replace hF:=A8 hF hc5
 refine AF<|Ap<|A6<|Ac<|Ad z z<|Ab<|be hF fun r2 hr7 hF=>Bi (fun l w=>.inl ()=r2∧l=[]∧Below w2.heap.size w2 w∧Ctx [] w0 w []) ?_ ?_
 ·refine AJ<|wS (l':=[(0,u1),(3,(ptr b1 0)),(5,(I 0))]) ⟨z,z,z,Aj⟩<|B2 (fun k l w=>∃x7:Int,l=[(0,u1),(3,(ptr b1 0)),(5,(I x7))]∧Below w2.heap.size w2 w∧Ctx [] w0 w [Ag b1 [(I a2.1),u2,(I a2.2.2.1),(I a2.2.2.2.1),(I a2.2.2.2.2)]]∧S.IsMethod_l1 a2 a1 k x7=some r2) FUEL ⟨0,z,(Al _ _),hC2,hr7⟩<|?_
  clear hr7
  rintro k1 _ w9 ⟨x7,rfl,hB8,hC8,hL1⟩
  cases k1 with
  | zero=>rw [S.IsMethod_l1] at hL1; cases hL1
  | succ k1 =>
   rw [S.IsMethod_l1] at hL1
   refine A6<|Ac<|Ae z z<|fd AB Az z z z z<|Aq hC8 0 z z AM z z<|Bc Ak g2 z z<|Bv z z z<|Ab<|AE z (fun hc6=>?_) (fun hc6=>?_)
   ·replace hL1:=A7 hL1 hc6
    refine AF<|Ap<|A6<|AJ<|be hL1 fun r3 hr8 hL1=>BI (fun l w=>∃x8:Bool,x8=r3∧l=[(0,u1),(3,(ptr b1 0)),(5,(I x7)),(73,(.bool x8))]∧Below w9.heap.size w9 w∧Ctx [] w0 w [Ag b1 [(I a2.1),u2,(I a2.2.2.1),(I a2.2.2.2.1),(I a2.2.2.2.2)]]) ?_ ?_
    ·refine W_drawn 31 z hmix fun w11 hB10=>have hC10:=hC8.grow hB10;tf 0 AB Az z z z z z<|tm 2 z z z<|tm 5 z z z<|tf 6 AB Ay z z z z z<|be hr8 fun x9 hx1 hr8=>be hr8 fun x10 hx2 hr8=>wAS (l':=[(0,u1),(3,(ptr b1 0)),(5,(I x7)),(36,(I x7)),(37,(ptr b1 1)),(38,u2),(39,(I (List.length a2.2.1:Int))),(40,(.bool (decide (x7 < (List.length a2.2.1:Int))))),(43,(ptr b1 1)),(45,(I x7)),(48,u1),(49,(ptr b1 0))]) ⟨z,z,z,z,z,z,z,z,z,z,z,z,Aj⟩<|Bq [⟨1,[],fun vs=>Ba u2,[]⟩,⟨3,[],fun vs=>BZ [] w0 x9,[]⟩,⟨4,[],fun vs=>Ba (I x9),[]⟩,⟨7,[],fun vs=>Ba (I a2.1),[]⟩,⟨8,[],fun vs=>BZ [] w0 x10,[]⟩,⟨9,[],fun vs=>Ba (I x10),[]⟩,⟨10,[],fun vs=>Ba (I (w64 (x10 - 1))),[]⟩] [[],[1],[3],[],[7],[8],[9]] 20 z (by kernel_rfl) (by kernel_rfl) z ?_ ?_
     ·refine An z ?_ ?_
      ·intro w12 hB11
       refine At<|⟨_,z,?_⟩
       exact Aq (hC10.grow hB11) 0 z z AM z z<|Ab<|Aw (Al _ _) z z ⟨z,z⟩
      refine An z ?_ ?_
      ·intro w12 hB11
       refine AD z z z ?_
       rintro _ _ ⟨rfl,rfl⟩ _
       refine At<|⟨_,z,?_⟩
       exact AH Ak ty3 g2 hx1 z z z fun b2 o1 h1=>Ab<|Aw (Al _ _) z z ⟨z,_,_,z,h1⟩
      refine An z ?_ ?_
      ·intro w12 hB11
       refine AD z z z ?_
       rintro _ _ ⟨rfl,b2,o1,rfl,h1⟩ _
       refine At<|⟨_,z,?_⟩
       refine AI ty3 h1 (hC10.keep.then hB11) z z (fun v1 h2=>?_)
       obtain rfl:=B8 h2
       exact Ab<|Aw (Al _ _) z z ⟨z,z⟩
      refine An z ?_ ?_
      ·intro w12 hB11
       refine At<|⟨_,z,?_⟩
       exact Aq (hC10.grow hB11) 0 z z AR z z<|Ab<|Aw (Al _ _) z z ⟨z,z⟩
      refine An z ?_ ?_
      ·intro w12 hB11
       refine AD z z z ?_
       rintro _ _ ⟨rfl,rfl⟩ _
       refine At<|⟨_,z,?_⟩
       exact AH Ak ty3 g1 hx2 z z z fun b3 o2 h3=>Ab<|Aw (Al _ _) z z ⟨z,_,_,z,h3⟩
      refine An z ?_ ?_
      ·intro w12 hB11
       refine AD z z z ?_
       rintro _ _ ⟨rfl,b3,o2,rfl,h3⟩ _
       refine At<|⟨_,z,?_⟩
       refine AI ty3 h3 (hC10.keep.then hB11) z z (fun v2 h4=>?_)
       obtain rfl:=B8 h4
       exact Ab<|Aw (Al _ _) z z ⟨z,z⟩
      refine An z ?_ ?_
      ·intro w12 hB11
       refine AD z z z ?_
       rintro _ _ ⟨rfl,rfl⟩ _
       refine At<|⟨_,z,?_⟩
       exact BR z z z<|Ab<|Aw (Al _ _) z z ⟨z,z⟩
      exact Bj
     intro w13 hB12
     refine Ar z z z ?_
     rintro _ _ ⟨rfl,rfl⟩
     refine Ar z z z ?_
     rintro _ _ ⟨rfl,b2,o1,rfl,h1⟩
     refine Ar z z z ?_
     rintro _ _ ⟨rfl,rfl⟩
     refine Ar z z z ?_
     rintro _ _ ⟨rfl,rfl⟩
     refine Ar z z z ?_
     rintro _ _ ⟨rfl,b3,o2,rfl,h3⟩
     refine Ar z z z ?_
     rintro _ _ ⟨rfl,rfl⟩
     refine Ar z z z ?_
     rintro _ _ ⟨rfl,rfl⟩
     refine Bt fun hn1 hb1=>have hC11:=hC10.grow hB12;be hr8 fun x11 hr9 hr8=>oe 11 z<|cb BL z z (c_S_l1In x9 0 (w64 (x10 - 1)) x11 hr9) fun w14 hB13=>have hC12:=hC11.grow hB13;Ab<|tk 12 z z (Cl z)<|B3 z z<|Ab<|tm 13 z z z<|BC (fun hc7=>?_) (fun hc7=>?_)
     ·replace hr8:=A7 hr8 hc7
      refine sk 14 z z z z z<|sk 15 z z z z z<|sk 16 z z z z z<|sk 17 z z z z z<|sk 18 z z z z z<|sk 19 z z z z z<|sk 20 z z z z z<|sk 21 z z z z z<|sk 22 z z z z z<|sk 23 z z z z z<|sk 24 z z z z z<|sk 25 z z z z z<|sk 26 z z z z z<|sk 27 z z z z z<|sk 28 z z z z z<|sk 29 z z z z z<|tp 30 z z z z<|dn<|?_
      obtain rfl:=Aa hr8
      exact Am (l':=[(0,u1),(3,(ptr b1 0)),(5,(I x7)),(73,(.bool true))]) ⟨z,z,z,z,Aj⟩<|⟨true,z,z,(((Ao hB10).then hB12).then hB13).below,hC12⟩
     replace hr8:=A8 hr8 hc7
     refine tn 14 z z z z z<|tg 15 z z z z (Dd z z)<|Ah z z<|Ca z z z<|Ab<|tn 16 z z z z z<|BC (fun hc8=>?_) (fun hc8=>?_)
     ·replace hr8:=A7 hr8 hc8
      refine tg 17 z z z z (BB AB z z (fun w=>⟨_,Az w⟩) z)<|Ah z z<|fd AB Az z z z z<|Ab<|tn 19 z z z z z<|tg 22 z z z z (BB AB z z (fun w=>⟨_,Az w⟩) z)<|Ah z z<|fd AB Az z z z z<|Ab<|tn 24 z z z z z<|tg 25 z z z z (Ct z z)<|Ah z z<|BR z z z<|Ab<|be hr8 fun x12 hx3 hr8=>be hr8 fun x13 hx4 hr8=>wAS (l':=[(0,u1),(3,(ptr b1 0)),(5,(I x7)),(36,(I x7)),(37,(ptr b1 1)),(38,u2),(39,(I (List.length a2.2.1:Int))),(40,(.bool (decide (x7 < (List.length a2.2.1:Int))))),(43,(ptr b1 1)),(44,u2),(45,(I x7)),(46,(ptr b2 o1)),(47,(I x9)),(48,u1),(49,(ptr b1 0)),(50,(I a2.1)),(51,(ptr b3 o2)),(52,(I x10)),(53,(I (w64 (x10 - 1)))),(54,(.bool x11)),(55,(.bool (!x11))),(56,(.bool false)),(57,(I x7)),(58,(.bool (decide (0 < x7)))),(59,(.bool true)),(60,(ptr b1 1)),(62,(I x7)),(65,(ptr b1 1)),(67,(I x7)),(68,(I (w64 (x7 - 1))))]) ⟨z,z,z,z,z,z,z,z,z,z,z,z,z,z,z,z,z,z,z,z,z,z,z,z,z,z,z,z,z,z,Aj⟩<|Bq [⟨18,[],fun vs=>Ba u2,[]⟩,⟨20,[],fun vs=>BZ [] w0 x12,[]⟩,⟨21,[],fun vs=>Ba (I x12),[]⟩,⟨23,[],fun vs=>Ba u2,[]⟩,⟨26,[],fun vs=>BZ [] w0 x13,[]⟩,⟨27,[],fun vs=>Ba (I x13),[]⟩] [[],[18],[20],[],[23],[26]] 3 z (by kernel_rfl) (by kernel_rfl) z ?_ ?_
      ·refine An z ?_ ?_
       ·intro w15 hB14
        refine At<|⟨_,z,?_⟩
        exact Ah z z<|Aq (hC12.grow hB14) 0 z z AM z z<|Ab<|Aw (Al _ _) z z ⟨z,z⟩
       refine An z ?_ ?_
       ·intro w15 hB14
        refine AD z z z ?_
        rintro _ _ ⟨rfl,rfl⟩ _
        refine At<|⟨_,z,?_⟩
        exact Ah z z<|AH Ak ty3 g2 hx3 z z z fun b4 o3 h5=>Ab<|Aw (Al _ _) z z ⟨z,_,_,z,h5⟩
       refine An z ?_ ?_
       ·intro w15 hB14
        refine AD z z z ?_
        rintro _ _ ⟨rfl,b4,o3,rfl,h5⟩ _
        refine At<|⟨_,z,?_⟩
        refine Ah z z<|AI ty3 h5 (hC12.keep.then hB14) z z fun v3 h6=>?_
        obtain rfl:=B8 h6
        exact Ab<|Aw (Al _ _) z z ⟨z,z⟩
       refine An z ?_ ?_
       ·intro w15 hB14
        refine At<|⟨_,z,?_⟩
        exact Ah z z<|Aq (hC12.grow hB14) 0 z z AM z z<|Ab<|Aw (Al _ _) z z ⟨z,z⟩
       refine An z ?_ ?_
       ·intro w15 hB14
        refine AD z z z ?_
        rintro _ _ ⟨rfl,rfl⟩ _
        refine At<|⟨_,z,?_⟩
        exact Ah z z<|AH Ak ty3 g2 hx4 z z z fun b5 o4 h7=>Ab<|Aw (Al _ _) z z ⟨z,_,_,z,h7⟩
       refine An z ?_ ?_
       ·intro w15 hB14
        refine AD z z z ?_
        rintro _ _ ⟨rfl,b5,o4,rfl,h7⟩ _
        refine At<|⟨_,z,?_⟩
        refine Ah z z<|AI ty3 h7 (hC12.keep.then hB14) z z fun v4 h8=>?_
        obtain rfl:=B8 h8
        exact Ab<|Aw (Al _ _) z z ⟨z,z⟩
       exact Bj
      intro w16 hB15
      refine Ar z z z ?_
      rintro _ _ ⟨rfl,rfl⟩
      refine Ar z z z ?_
      rintro _ _ ⟨rfl,b4,o3,rfl,h5⟩
      refine Ar z z z ?_
      rintro _ _ ⟨rfl,rfl⟩
      refine Ar z z z ?_
      rintro _ _ ⟨rfl,rfl⟩
      refine Ar z z z ?_
      rintro _ _ ⟨rfl,b5,o4,rfl,h7⟩
      refine Ar z z z ?_
      rintro _ _ ⟨rfl,rfl⟩
      refine Bt fun hn2 hb2=>have hC13:=hC12.grow hB15;tg 28 z z z z (fl_leq z z)<|Ah z z<|Cp z z z<|Ab<|tg 29 z z z z (Cg z z)<|Ah z z<|AW z z z<|Ab<|tq 30 z z z z<|dn<|?_
      obtain rfl:=Aa hr8
      exact Am (l':=[(0,u1),(3,(ptr b1 0)),(5,(I x7)),(73,(.bool (decide (x12 ≤ x13))))]) ⟨z,z,z,z,Aj⟩<|⟨(decide (x12 ≤ x13)),z,z,((((Ao hB10).then hB12).then hB13).then hB15).below,hC13⟩
     replace hr8:=A8 hr8 hc8
     refine sk 17 z z z z z<|sk 18 z z z z z<|sk 19 z z z z z<|sk 20 z z z z z<|sk 21 z z z z z<|sk 22 z z z z z<|sk 23 z z z z z<|sk 24 z z z z z<|sk 25 z z z z z<|sk 26 z z z z z<|sk 27 z z z z z<|sk 28 z z z z z<|tg 29 z z z z (Ci z z)<|Ah z z<|AZ z z z<|Ab<|tq 30 z z z z<|dn<|?_
     obtain rfl:=Aa hr8
     exact Am (l':=[(0,u1),(3,(ptr b1 0)),(5,(I x7)),(73,(.bool false))]) ⟨z,z,z,z,Aj⟩<|⟨false,z,z,(((Ao hB10).then hB12).then hB13).below,hC12⟩
    rintro _ w10 ⟨x8,rfl,rfl,hB9,hC9⟩
    try dsimp only at hL1
    refine AE z (fun hc9=>?_) (fun hc9=>?_)
    ·replace hL1:=A7 hL1 hc9
     refine Ac<|Ad z z<|Ab<|AL<|Bd<|Av<|Av<|Bd<|Av<|Av<|?_
     obtain rfl:=Aa hL1
     dsimp only at hF
     obtain rfl:=Aa hF
     exact A2 z z<|⟨_,z,AN hC9 _⟩
    replace hL1:=A8 hL1 hc9
    exact AF<|AU<|Ap<|Bg<|Ae z z<|Bn z z z<|Ad z z<|Ab<|Am (l':=[(0,u1),(3,(ptr b1 0)),(5,(I (w64 (x7+1))))]) ⟨z,z,z,Aj⟩<|⟨k1,A3 _,w64 (x7+1),z,((Ao hB8).then hB9).below,hC9,hL1⟩
   replace hL1:=A8 hL1 hc6
   refine B1 (A9 (A9 (Bk ?_)))
   obtain rfl:=Aa hL1
   have hC14:=hC8.h0
   exact Am (l':=[]) Aj<|⟨z,z,(Ao hB8).below,hC14⟩
 rintro l4 _ w17 hs4 ⟨rfl,rfl,hB16,hC15⟩
 try dsimp only at hF
 refine AY hs4 ?_
 clear hs4
 refine Ac<|Ad z z<|Ab<|AL<|?_
 obtain rfl:=Aa hF
 exact A2 z z<|⟨_,z,AN hC15 _⟩
theorem c_S_AreMethods {w0:World} (a1:(List Int)) (u1:Value) (g1:RO [] w0 u1 a1) (a2:(List (Int × (List Int) × Int × Int × Int))) (u2:Value) (g2:RO [] w0 u2 a2) (rr:Bool) (hF:S.AreMethods a1 a2=some rr) :
 Calls Tryz.prog 18 [u1,u2].toArray w0 fun e w'=>∃v,e=.returned v∧Res w0 rr v w':=by
 refine Ax Tryz.func18 z z ?_
 have hC0:=A5 w0
 unfold S.AreMethods at hF
 refine Ac<|Ad z z<|Ab<|A6<|Ac<|Ad z z<|Ab<|be hF fun r1 hr1 hF=>Bi (fun l w=>.inl ()=r1∧l=[(0,u1),(1,u2)]∧Below w0.heap.size w0 w∧Ctx [] w0 w []) ?_ ?_
 ·refine AJ<|wS (l':=[(0,u1),(1,u2),(5,(I 0))]) ⟨z,z,z,Aj⟩<|B2 (fun k l w=>∃x1:Int,l=[(0,u1),(1,u2),(5,(I x1))]∧Below w0.heap.size w0 w∧Ctx [] w0 w []∧S.AreMethods_l1 a2 a1 k x1=some r1) FUEL ⟨0,z,(Al _ _),hC0,hr1⟩<|?_
  clear hr1
  rintro k1 _ w1 ⟨x1,rfl,hB1,hC1,hL1⟩
  cases k1 with
  | zero=>rw [S.AreMethods_l1] at hL1; cases hL1
  | succ k1 =>
   rw [S.AreMethods_l1] at hL1
   refine A6<|Ac<|Ae z z<|Ae z z<|Bc Be g2 z z<|Bv z z z<|Ab<|AE z (fun hc1=>?_) (fun hc1=>?_)
   ·replace hL1:=A7 hL1 hc1
    refine AF<|Ap<|A6<|AJ<|Ac<|Ae z z<|Ae z z<|Ae z z<|be hL1 fun x2 hx1 hL1=>AH Be ty93 g2 hx1 z z z fun b1 o1 h1=>AI ty93 h1 hC1.keep z z fun v1 h2=>?_
    obtain ⟨v2,rfl,h3⟩:=CE h2
    refine be hL1 fun x3 hr2 hL1=>cb Tryz.call72 z z (c_S_IsMethod a1 u1 (g1.now hC1.keep) x2 v2 (h3.now hC1.keep) x3 hr2) fun w2 hB2=>have hC2:=hC1.grow hB2;B3 z z<|Ab<|AE z (fun hc2=>?_) (fun hc2=>?_)
    ·replace hL1:=A7 hL1 hc2
     refine Ac<|Ad z z<|Ab<|AL<|Bd<|Av<|Av<|Bd<|Av<|Av<|?_
     obtain rfl:=Aa hL1
     dsimp only at hF
     obtain rfl:=Aa hF
     exact A2 z z<|⟨_,z,AN hC2 _⟩
    replace hL1:=A8 hL1 hc2
    exact AF<|AU<|Ap<|Bg<|Ae z z<|Bn z z z<|Ad z z<|Ab<|Am (l':=[(0,u1),(1,u2),(5,(I (w64 (x1+1))))]) ⟨z,z,z,Aj⟩<|⟨k1,A3 _,w64 (x1+1),z,((Ao hB1).then hB2).below,hC2,hL1⟩
   replace hL1:=A8 hL1 hc1
   refine B1 (A9 (A9 (Bk ?_)))
   obtain rfl:=Aa hL1
   exact Am (l':=[(0,u1),(1,u2)]) ⟨z,z,Aj⟩<|⟨z,z,(Ao hB1).below,hC1⟩
 rintro l2 _ w3 hs2 ⟨rfl,rfl,hB3,hC3⟩
 try dsimp only at hF
 refine AY hs2 ?_
 clear hs2
 refine be hF fun r2 hr3 hF=>BI (fun l w=>∃x4:Bool,x4=r2∧l=[(4,(.bool x4))]∧Below w3.heap.size w3 w∧Ctx [] w0 w []) ?_ ?_
 ·refine Bg<|Ae z z<|be hr3 fun x5 hr4 hr3=>cb BX z z (c_S_IsSchema a1 u1 (g1.now hC3.keep) x5 hr4) fun w5 hB5=>have hC5:=hC3.grow hB5;Ae z z<|Bz (fun hc3=>?_) (fun hc3=>?_)
  ·replace hr3:=A7 hr3 hc3
   refine Ah z z<|Ae z z<|Ah z z<|Bc Be g2 z z<|Ah z z<|Cp z z z<|AW z z z<|Ad z z<|Ab<|?_
   obtain rfl:=Aa hr3
   exact Am (l':=[(4,(.bool (decide ((List.length a2:Int) ≤ 5))))]) ⟨z,Aj⟩<|⟨(decide ((List.length a2:Int) ≤ 5)),z,z,(Ao hB5).below,hC5⟩
  replace hr3:=A8 hr3 hc3
  refine gs z z z z<|gs z z z z<|gs z z z z<|AZ z z z<|Ad z z<|Ab<|?_
  obtain rfl:=Aa hr3
  exact Am (l':=[(4,(.bool false))]) ⟨z,Aj⟩<|⟨false,z,z,(Ao hB5).below,hC5⟩
 rintro _ w4 ⟨x4,rfl,rfl,hB4,hC4⟩
 try dsimp only at hF
 refine AL ?_
 obtain rfl:=Aa hF
 exact A2 z z<|⟨_,z,AN hC4 _⟩
theorem c_S_l1Byte {w0:World} {Fs:List (List Nat)} (pb1:Nat) (a1:((List UInt8) × Int × Int)) (u1:Value) (g1:RO Fs.flatten w0 u1 a1.1) (hH:Hold [Ag pb1 [u1,(I a1.2.1),(I a1.2.2)]] w0 Fs) (hn:Fs.flatten.Nodup) (rr:(Int × ((List UInt8) × Int × Int))) (hF:S.l1Byte a1=some rr) :
 Calls Tryz.prog 171 [(ptr pb1 0)].toArray w0 fun e w'=>∃v,e=.returned v∧v=(I rr.1)∧Ctx Fs.flatten w0 w' [Ag pb1 [u1,(I rr.2.2.1),(I rr.2.2.2)]]:=by
 refine Ax Tryz.func171 z z ?_
 have hC0:=BE hH hn
 unfold S.l1Byte at hF
 refine Ac<|Ad z z<|Ab<|Ac<|Ae z z<|Ae z z<|Cb z z<|fd BK Ay z z z z<|Aq hC0 0 z z AR z z<|WL_mul z z z<|Bn z z z<|Cb z z<|fd BK Ay z z z z<|B9 (cs':=[u1,(I a1.2.1),(I (w64 ((w64 (a1.2.2 * 6364136223846793005))+1442695040888963407)))]) hC0 0 z z z z Ay z z fun w1 hC1 hKp1=>?_
 try dsimp only [List.set] at hC1
 refine Ab<|A6<|W_drawn 13 z hmix fun w2 hB1=>have hC2:=hC1.grow hB1;tm 0 z z z<|tk 1 z z (Cv z)<|Cb z z<|Ab<|tf 2 BK Ay z z z z z<|tm 5 z z z<|tk 6 z z (Cv z)<|Cb z z<|Ab<|tf 7 BK Ay z z z z z<|wAS (l':=[(0,(ptr pb1 0)),(2,(I 0)),(4,(ptr pb1 0)),(5,(ptr pb1 0)),(6,(ptr pb1 0)),(7,(ptr pb1 2)),(8,(I a1.2.2)),(9,(I (w64 (a1.2.2 * 6364136223846793005)))),(10,(I (w64 ((w64 (a1.2.2 * 6364136223846793005))+1442695040888963407)))),(11,(ptr pb1 0)),(12,(ptr pb1 2)),(13,(ptr pb1 0)),(14,(ptr pb1 0)),(15,(ptr pb1 2)),(18,(ptr pb1 0)),(19,(ptr pb1 0)),(20,(ptr pb1 2))]) ⟨z,z,z,z,z,z,z,z,z,z,z,z,z,z,z,z,z,Aj⟩<|Bq [⟨3,[],fun vs=>Ba (I (w64 ((w64 (a1.2.2 * 6364136223846793005))+1442695040888963407))),[]⟩,⟨4,[],fun vs=>Ba (I (shr (w64 ((w64 (a1.2.2 * 6364136223846793005))+1442695040888963407)) 33)),[]⟩,⟨8,[],fun vs=>Ba (I (w64 ((w64 (a1.2.2 * 6364136223846793005))+1442695040888963407))),[]⟩,⟨9,[],fun vs=>Ba (I (shr (w64 ((w64 (a1.2.2 * 6364136223846793005))+1442695040888963407)) 45)),[]⟩] [[],[3],[],[8]] 3 z (by kernel_rfl) (by kernel_rfl) z ?_ ?_
 ·refine An z ?_ ?_
  ·intro w3 hB2
   refine At<|⟨_,z,?_⟩
   exact Aq (hC2.grow hB2) 0 z z AR z z<|Ab<|Aw (Al _ _) z z ⟨z,z⟩
  refine An z ?_ ?_
  ·intro w3 hB2
   refine AD z z z ?_
   rintro _ _ ⟨rfl,rfl⟩ _
   refine At<|⟨_,z,?_⟩
   exact WL_shr (by decide) z z z<|Ab<|Aw (Al _ _) z z ⟨z,z⟩
  refine An z ?_ ?_
  ·intro w3 hB2
   refine At<|⟨_,z,?_⟩
   exact Aq (hC2.grow hB2) 0 z z AR z z<|Ab<|Aw (Al _ _) z z ⟨z,z⟩
  refine An z ?_ ?_
  ·intro w3 hB2
   refine AD z z z ?_
   rintro _ _ ⟨rfl,rfl⟩ _
   refine At<|⟨_,z,?_⟩
   exact WL_shr (by decide) z z z<|Ab<|Aw (Al _ _) z z ⟨z,z⟩
  exact Bj
 intro w4 hB3
 refine Ar z z z ?_
 rintro _ _ ⟨rfl,rfl⟩
 refine Ar z z z ?_
 rintro _ _ ⟨rfl,rfl⟩
 refine Ar z z z ?_
 rintro _ _ ⟨rfl,rfl⟩
 refine Ar z z z ?_
 rintro _ _ ⟨rfl,rfl⟩
 refine Bt fun hn1 hb1=>have hC3:=hC2.grow hB3;tk 10 z z (fl_bxor z z)<|WL_bxor z z z<|Ab<|tk 11 z z (fl_band z z)<|WL_band z z z<|Ab<|ta 12 z z z<|dn<|Ap<|A6<|A6<|W_drawn 10 z hmix fun w5 hB4=>have hC4:=hC3.grow hB4;tm 0 z z z<|tk 1 z z (Cv z)<|Cb z z<|Ab<|tf 2 BK Ay z z z z z<|tm 4 z z z<|tk 5 z z (Cv z)<|Cb z z<|Ab<|tf 6 BK Tryz.sizeOf22 z z z z z<|wAS (l':=[(0,(ptr pb1 0)),(2,(I 0)),(3,(I (band (bxor (shr (w64 ((w64 (a1.2.2 * 6364136223846793005))+1442695040888963407)) 33) (shr (w64 ((w64 (a1.2.2 * 6364136223846793005))+1442695040888963407)) 45)) 255))),(4,(ptr pb1 0)),(5,(ptr pb1 0)),(6,(ptr pb1 0)),(7,(ptr pb1 2)),(8,(I a1.2.2)),(9,(I (w64 (a1.2.2 * 6364136223846793005)))),(10,(I (w64 ((w64 (a1.2.2 * 6364136223846793005))+1442695040888963407)))),(11,(ptr pb1 0)),(12,(ptr pb1 2)),(13,(ptr pb1 0)),(14,(ptr pb1 0)),(15,(ptr pb1 2)),(16,(I (w64 ((w64 (a1.2.2 * 6364136223846793005))+1442695040888963407)))),(17,(I (shr (w64 ((w64 (a1.2.2 * 6364136223846793005))+1442695040888963407)) 33))),(18,(ptr pb1 0)),(19,(ptr pb1 0)),(20,(ptr pb1 2)),(21,(I (w64 ((w64 (a1.2.2 * 6364136223846793005))+1442695040888963407)))),(22,(I (shr (w64 ((w64 (a1.2.2 * 6364136223846793005))+1442695040888963407)) 45))),(23,(I (bxor (shr (w64 ((w64 (a1.2.2 * 6364136223846793005))+1442695040888963407)) 33) (shr (w64 ((w64 (a1.2.2 * 6364136223846793005))+1442695040888963407)) 45)))),(24,(I (band (bxor (shr (w64 ((w64 (a1.2.2 * 6364136223846793005))+1442695040888963407)) 33) (shr (w64 ((w64 (a1.2.2 * 6364136223846793005))+1442695040888963407)) 45)) 255))),(25,(ptr pb1 0)),(26,(ptr pb1 0)),(27,(ptr pb1 1)),(29,(ptr pb1 0)),(30,(ptr pb1 0)),(31,(ptr pb1 0))]) ⟨z,z,z,z,z,z,z,z,z,z,z,z,z,z,z,z,z,z,z,z,z,z,z,z,z,z,z,z,z,z,Aj⟩<|Bq [⟨3,[],fun vs=>Ba (I a1.2.1),[]⟩,⟨7,[],fun vs=>Ba u1,[]⟩,⟨8,[],fun vs=>Ba (I (List.length a1.1:Int)),[]⟩] [[],[],[7]] 1 z (by kernel_rfl) (by kernel_rfl) z ?_ ?_
 ·refine An z ?_ ?_
  ·intro w6 hB5
   refine At<|⟨_,z,?_⟩
   exact Aq (hC4.grow hB5) 0 z z AR z z<|Ab<|Aw (Al _ _) z z ⟨z,z⟩
  refine An z ?_ ?_
  ·intro w6 hB5
   refine At<|⟨_,z,?_⟩
   exact Aq (hC4.grow hB5) 0 z z Tryz.isAgg22 z z<|Ab<|Aw (Al _ _) z z ⟨z,z⟩
  refine An z ?_ ?_
  ·intro w6 hB5
   refine AD z z z ?_
   rintro _ _ ⟨rfl,rfl⟩ _
   refine At<|⟨_,z,?_⟩
   exact Bc BV g1 z z<|Ab<|Aw (Al _ _) z z ⟨z,z⟩
  exact Bj
 intro w7 hB6
 refine Ar z z z ?_
 rintro _ _ ⟨rfl,rfl⟩
 refine Ar z z z ?_
 rintro _ _ ⟨rfl,rfl⟩
 refine Ar z z z ?_
 rintro _ _ ⟨rfl,rfl⟩
 refine Bt fun hn2 hb2=>have hC5:=hC4.grow hB6;tk 9 z z (fl_lss z z)<|Bv z z z<|Ab<|dn<|Ap<|be hF fun r1 hr1 hF=>Bi (fun l w=>∃x1:Int,∃x2:Int,∃x3:Int,(x1,x2,x3)=r1∧l=[(3,(I x3))]∧Ctx Fs.flatten w0 w [Ag pb1 [u1,(I x1),(I x2)]]) ?_ ?_
 ·refine AE z (fun hc1=>?_) (fun hc1=>?_)
  ·replace hr1:=A7 hr1 hc1
   refine A6<|W_drawn 15 z hmix fun w10 hB8=>have hC7:=hC5.grow hB8;tm 0 z z z<|tm 1 z z z<|tk 2 z z (Cv z)<|Cb z z<|Ab<|tf 3 BK Tryz.sizeOf22 z z z z z<|tm 5 z z z<|tk 6 z z (Cv z)<|Cb z z<|Ab<|tf 7 BK Ay z z z z z<|wAS (l':=[(0,(ptr pb1 0)),(2,(I 0)),(3,(I (band (bxor (shr (w64 ((w64 (a1.2.2 * 6364136223846793005))+1442695040888963407)) 33) (shr (w64 ((w64 (a1.2.2 * 6364136223846793005))+1442695040888963407)) 45)) 255))),(4,(ptr pb1 0)),(5,(ptr pb1 0)),(6,(ptr pb1 0)),(7,(ptr pb1 2)),(8,(I a1.2.2)),(9,(I (w64 (a1.2.2 * 6364136223846793005)))),(10,(I (w64 ((w64 (a1.2.2 * 6364136223846793005))+1442695040888963407)))),(11,(ptr pb1 0)),(12,(ptr pb1 2)),(13,(ptr pb1 0)),(14,(ptr pb1 0)),(15,(ptr pb1 2)),(16,(I (w64 ((w64 (a1.2.2 * 6364136223846793005))+1442695040888963407)))),(17,(I (shr (w64 ((w64 (a1.2.2 * 6364136223846793005))+1442695040888963407)) 33))),(18,(ptr pb1 0)),(19,(ptr pb1 0)),(20,(ptr pb1 2)),(21,(I (w64 ((w64 (a1.2.2 * 6364136223846793005))+1442695040888963407)))),(22,(I (shr (w64 ((w64 (a1.2.2 * 6364136223846793005))+1442695040888963407)) 45))),(23,(I (bxor (shr (w64 ((w64 (a1.2.2 * 6364136223846793005))+1442695040888963407)) 33) (shr (w64 ((w64 (a1.2.2 * 6364136223846793005))+1442695040888963407)) 45)))),(24,(I (band (bxor (shr (w64 ((w64 (a1.2.2 * 6364136223846793005))+1442695040888963407)) 33) (shr (w64 ((w64 (a1.2.2 * 6364136223846793005))+1442695040888963407)) 45)) 255))),(25,(ptr pb1 0)),(26,(ptr pb1 0)),(27,(ptr pb1 1)),(28,(I a1.2.1)),(29,(ptr pb1 0)),(30,(ptr pb1 0)),(31,(ptr pb1 0)),(32,u1),(33,(I (List.length a1.1:Int))),(34,(.bool (decide (a1.2.1 < (List.length a1.1:Int))))),(35,(I (band (bxor (shr (w64 ((w64 (a1.2.2 * 6364136223846793005))+1442695040888963407)) 33) (shr (w64 ((w64 (a1.2.2 * 6364136223846793005))+1442695040888963407)) 45)) 255))),(36,(ptr pb1 0)),(37,(ptr pb1 0)),(38,(ptr pb1 0)),(40,(ptr pb1 0)),(41,(ptr pb1 0)),(42,(ptr pb1 1))]) ⟨z,z,z,z,z,z,z,z,z,z,z,z,z,z,z,z,z,z,z,z,z,z,z,z,z,z,z,z,z,z,z,z,z,z,z,z,z,z,z,z,z,Aj⟩<|Bq [⟨4,[],fun vs=>Ba u1,[]⟩,⟨8,[],fun vs=>Ba (I a1.2.1),[]⟩] [[],[]] 6 z (by kernel_rfl) (by kernel_rfl) z ?_ ?_
   ·refine An z ?_ ?_
    ·intro w11 hB9
     refine At<|⟨_,z,?_⟩
     exact Aq (hC7.grow hB9) 0 z z Tryz.isAgg22 z z<|Ab<|Aw (Al _ _) z z ⟨z,z⟩
    refine An z ?_ ?_
    ·intro w11 hB9
     refine At<|⟨_,z,?_⟩
     exact Aq (hC7.grow hB9) 0 z z AR z z<|Ab<|Aw (Al _ _) z z ⟨z,z⟩
    exact Bj
   intro w12 hB10
   refine Ar z z z ?_
   rintro _ _ ⟨rfl,rfl⟩
   refine Ar z z z ?_
   rintro _ _ ⟨rfl,rfl⟩
   refine Bt fun hn3 hb3=>have hC8:=hC7.grow hB10;be hr1 fun x4 hx1 hr1=>tk 9 z z (BG BV ty5 g1 hx1 z z)<|AH BV ty5 g1 hx1 z z z fun b1 o1 h1=>Ab<|oe 10 z<|AI ty5 h1 hC8.keep z z fun v1 h2=>?_
   obtain rfl:=ro_u8 h2
   refine Ab<|tk 11 z z (fl_conv_int CC Cu z)<|WL_conv_i64 CC Cu z z<|Ab<|tk 12 z z (fl_add z z)<|Bn z z z<|Ab<|tk 13 z z (fl_band z z)<|WL_band z z z<|Ab<|ta 14 z z z<|dn<|Ap<|Bg<|Ae z z<|Ae z z<|Cb z z<|fd BK Ay z z z z<|Aq hC8 0 z z AR z z<|Bn z z z<|Cb z z<|fd BK Ay z z z z<|B9 (cs':=[u1,(I (w64 (a1.2.1+1))),(I (w64 ((w64 (a1.2.2 * 6364136223846793005))+1442695040888963407)))]) hC8 0 z z z z Ay z z fun w13 hC9 hKp2=>?_
   try dsimp only [List.set] at hC9
   refine Ab ?_
   obtain rfl:=Aa hr1
   exact Am (l':=[(3,(I (band (w64 ((band (bxor (shr (w64 ((w64 (a1.2.2 * 6364136223846793005))+1442695040888963407)) 33) (shr (w64 ((w64 (a1.2.2 * 6364136223846793005))+1442695040888963407)) 45)) 255)+(w64 (UInt8.toNat x4:Int)))) 255)))]) ⟨z,Aj⟩<|⟨w64 (a1.2.1+1),w64 ((w64 (a1.2.2 * 6364136223846793005))+1442695040888963407),band (w64 ((band (bxor (shr (w64 ((w64 (a1.2.2 * 6364136223846793005))+1442695040888963407)) 33) (shr (w64 ((w64 (a1.2.2 * 6364136223846793005))+1442695040888963407)) 45)) 255)+(w64 (UInt8.toNat x4:Int)))) 255,z,z,hC9⟩
  replace hr1:=A8 hr1 hc1
  refine AF ?_
  obtain rfl:=Aa hr1
  exact Am (l':=[(3,(I (band (bxor (shr (w64 ((w64 (a1.2.2 * 6364136223846793005))+1442695040888963407)) 33) (shr (w64 ((w64 (a1.2.2 * 6364136223846793005))+1442695040888963407)) 45)) 255)))]) ⟨z,Aj⟩<|⟨a1.2.1,w64 ((w64 (a1.2.2 * 6364136223846793005))+1442695040888963407),band (bxor (shr (w64 ((w64 (a1.2.2 * 6364136223846793005))+1442695040888963407)) 33) (shr (w64 ((w64 (a1.2.2 * 6364136223846793005))+1442695040888963407)) 45)) 255,z,z,hC5⟩
 rintro l1 _ w9 hs1 ⟨x1,x2,x3,rfl,rfl,hC6⟩
 try dsimp only at hF
 refine AY hs1 ?_
 clear hs1
 refine Ac<|Ae z z<|Ad z z<|Ab<|AL<|?_
 obtain rfl:=Aa hF
 exact A2 z z<|⟨_,z,z,hC6⟩
theorem c_S_l1Below {w0:World} {Fs:List (List Nat)} (pb1:Nat) (a1:((List UInt8) × Int × Int)) (u1:Value) (g1:RO Fs.flatten w0 u1 a1.1) (a2:Int) (hH:Hold [Ag pb1 [u1,(I a1.2.1),(I a1.2.2)]] w0 Fs) (hn:Fs.flatten.Nodup) (rr:(Int × ((List UInt8) × Int × Int))) (hF:S.l1Below a1 a2=some rr) :
 Calls Tryz.prog 120 [(ptr pb1 0),(I a2)].toArray w0 fun e w'=>∃v,e=.returned v∧v=(I rr.1)∧Ctx Fs.flatten w0 w' [Ag pb1 [u1,(I rr.2.2.1),(I rr.2.2.2)]]:=by
 refine Ax Tryz.func120 z z ?_
 have hC0:=BE hH hn
 unfold S.l1Below at hF
 refine Ac<|Ad z z<|Ab<|A6<|Ac<|Ae z z<|Cp z z z<|Ab<|AE z (fun hc1=>?_) (fun hc1=>?_)
 ·replace hF:=A7 hF hc1
  refine Ac<|Ad z z<|Ab<|AL<|Av<|?_
  obtain rfl:=Aa hF
  exact A2 z z<|⟨_,z,z,hC0⟩
 replace hF:=A8 hF hc1
 refine AF<|Ap<|A6<|Ac<|Ae z z<|Cp z z z<|Ab<|AE z (fun hc2=>?_) (fun hc2=>?_)
 ·replace hF:=A7 hF hc2
  refine Ac<|Ae z z<|be hF fun x1 hr1 hF=>?_
  obtain ⟨Fs1,hH1,hn1,hF1,hO1,hb1⟩:=AX (As:=[]) [Ag pb1 [u1,(I a1.2.1),(I a1.2.2)]] hC0
  refine AG Cx z z (c_S_l1Byte pb1 (a1.1,a1.2.1,a1.2.2) u1 (Bf g1 hC0.keep hF1) hH1 hn1 x1 hr1) ?_
  rintro _ w1 ⟨rfl,hq2⟩
  have hC1:Ctx Fs.flatten w0 w1 [Ag pb1 [u1,(I x1.2.2.1),(I x1.2.2.2)]]:=hb1 _ _ hq2
  refine Ae z z<|be hF fun _ hx1 hF=>WL_rem (nz_some hx1) z z z<|Ad z z<|Ab<|AL<|Av<|?_
  obtain rfl:=Aa hF
  exact A2 z z<|⟨_,z,z,hC1⟩
 replace hF:=A8 hF hc2
 refine AF<|Ap<|Ac<|Ae z z<|be hF fun x2 hr2 hF=>?_
 obtain ⟨Fs2,hH2,hn2,hF2,hO2,hb2⟩:=AX (As:=[]) [Ag pb1 [u1,(I a1.2.1),(I a1.2.2)]] hC0
 refine AG Cx z z (c_S_l1Byte pb1 (a1.1,a1.2.1,a1.2.2) u1 (Bf g1 hC0.keep hF2) hH2 hn2 x2 hr2) ?_
 rintro _ w2 ⟨rfl,hq4⟩
 have hC2:Ctx Fs.flatten w0 w2 [Ag pb1 [u1,(I x2.2.2.1),(I x2.2.2.2)]]:=hb2 _ _ hq4
 refine Ad z z<|Ab<|Ac<|Ae z z<|be hF fun x3 hr3 hF=>?_
 obtain ⟨Fs3,hH3,hn3,hF3,hO3,hb3⟩:=AX (As:=[]) [Ag pb1 [u1,(I x2.2.2.1),(I x2.2.2.2)]] hC2
 refine AG Cx z z (c_S_l1Byte pb1 (a1.1,x2.2.2.1,x2.2.2.2) u1 (Bf g1 hC2.keep hF3) hH3 hn3 x3 hr3) ?_
 rintro _ w3 ⟨rfl,hq5⟩
 have hC3:Ctx Fs.flatten w0 w3 [Ag pb1 [u1,(I x3.2.2.1),(I x3.2.2.2)]]:=hb3 _ _ hq5
 refine Ad z z<|Ab<|Ac<|Ae z z<|be hF fun x4 hr4 hF=>?_
 obtain ⟨Fs4,hH4,hn4,hF4,hO4,hb4⟩:=AX (As:=[]) [Ag pb1 [u1,(I x3.2.2.1),(I x3.2.2.2)]] hC3
 refine AG Cx z z (c_S_l1Byte pb1 (a1.1,x3.2.2.1,x3.2.2.2) u1 (Bf g1 hC3.keep hF4) hH4 hn4 x4 hr4) ?_
 rintro _ w4 ⟨rfl,hq6⟩
 have hC4:Ctx Fs.flatten w0 w4 [Ag pb1 [u1,(I x4.2.2.1),(I x4.2.2.2)]]:=hb4 _ _ hq6
 refine Ad z z<|Ab<|Ac<|Ae z z<|be hF fun x5 hr5 hF=>?_
 obtain ⟨Fs5,hH5,hn5,hF5,hO5,hb5⟩:=AX (As:=[]) [Ag pb1 [u1,(I x4.2.2.1),(I x4.2.2.2)]] hC4
 refine AG Cx z z (c_S_l1Byte pb1 (a1.1,x4.2.2.1,x4.2.2.2) u1 (Bf g1 hC4.keep hF5) hH5 hn5 x5 hr5) ?_
 rintro _ w5 ⟨rfl,hq7⟩
 have hC5:Ctx Fs.flatten w0 w5 [Ag pb1 [u1,(I x5.2.2.1),(I x5.2.2.2)]]:=hb5 _ _ hq7
 refine Ad z z<|Ab<|Ac<|Ae z z<|WL_mul z z z<|Ae z z<|WL_mul z z z<|Bn z z z<|Ae z z<|WL_mul z z z<|Bn z z z<|Ae z z<|Bn z z z<|Ae z z<|be hF fun _ hx2 hF=>WL_rem (nz_some hx2) z z z<|Ad z z<|Ab<|AL<|?_
 obtain rfl:=Aa hF
 exact A2 z z<|⟨_,z,z,hC5⟩
theorem c_S_l1Once {w0:World} {Fs:List (List Nat)} (pb1:Nat) (a1:((List UInt8) × Int × Int)) (u1:Value) (g1:RO Fs.flatten w0 u1 a1.1) (a2:Int) (hH:Hold [Ag pb1 [u1,(I a1.2.1),(I a1.2.2)]] w0 Fs) (hn:Fs.flatten.Nodup) (rr:(Bool × ((List UInt8) × Int × Int))) (hF:S.l1Once a1 a2=some rr) :
 Calls Tryz.prog 78 [(ptr pb1 0),(I a2)].toArray w0 fun e w'=>∃v,e=.returned v∧v=(.bool rr.1)∧Ctx Fs.flatten w0 w' [Ag pb1 [u1,(I rr.2.2.1),(I rr.2.2.2)]]:=by
 refine Ax Tryz.func78 z z ?_
 have hC0:=BE hH hn
 unfold S.l1Once at hF
 refine Ac<|Ad z z<|Ab<|Ac<|Ae z z<|Ae z z<|be hF fun x1 hr1 hF=>?_
 obtain ⟨Fs1,hH1,hn1,hF1,hO1,hb1⟩:=AX (As:=[]) [Ag pb1 [u1,(I a1.2.1),(I a1.2.2)]] hC0
 refine AG Bo z z (c_S_l1Below pb1 (a1.1,a1.2.1,a1.2.2) u1 (Bf g1 hC0.keep hF1) a2 hH1 hn1 x1 hr1) ?_
 rintro _ w1 ⟨rfl,hq1⟩
 have hC1:Ctx Fs.flatten w0 w1 [Ag pb1 [u1,(I x1.2.2.1),(I x1.2.2.2)]]:=hb1 _ _ hq1
 refine BM z z z<|Ad z z<|Ab<|AL<|?_
 obtain rfl:=Aa hF
 exact A2 z z<|⟨_,z,z,hC1⟩
theorem c_S_CompareFacts {w0:World} (a1:(Int × (List Int))) (u1:Value) (g1:RO [] w0 u1 a1.2) (a2:(Int × (List Int))) (u2:Value) (g2:RO [] w0 u2 a2.2) (rr:Int) (hF:S.CompareFacts a1 a2=some rr) :
 Calls Tryz.prog 69 [(.agg #[(I a1.1),u1]),(.agg #[(I a2.1),u2])].toArray w0 fun e w'=>∃v,e=.returned v∧Res w0 rr v w':=by
 refine Ax Tryz.func69 z z ?_
 have hC0:=A5 w0
 unfold S.CompareFacts at hF
 refine Ac<|Br (cs:=[(I a1.1),u1]) hC0 z z z fun b1 w1 hC1 hB1 hN1=>Br (cs:=[(I a2.1),u2]) hC1 z z z fun b2 w2 hC2 hB2 hN2=>Ad z z<|Ab<|A6<|Ac<|fd A4 Ay z z z z<|Aq hC2 1 z z AR z z<|fd A4 Ay z z z z<|Aq hC2 0 z z AR z z<|Ch z z z<|Ab<|AE z (fun hc1=>?_) (fun hc1=>?_)
 ·replace hF:=A7 hF hc1
  refine A6<|Ac<|fd A4 Ay z z z z<|Aq hC2 1 z z AR z z<|fd A4 Ay z z z z<|Aq hC2 0 z z AR z z<|Bv z z z<|Ab<|AE z (fun hc2=>?_) (fun hc2=>?_)
  ·replace hF:=A7 hF hc2
   refine Ac<|Ad z z<|Ab<|AL<|Av<|Av<|?_
   obtain rfl:=Aa hF
   exact A2 z z<|⟨_,z,B4 hC2 _⟩
  replace hF:=A8 hF hc2
  refine AF<|Ap<|Ac<|Ad z z<|Ab<|AL<|Av<|?_
  obtain rfl:=Aa hF
  exact A2 z z<|⟨_,z,B4 hC2 _⟩
 replace hF:=A8 hF hc1
 refine AF<|Ap<|A6<|Ac<|Ad z z<|Ab<|be hF fun r1 hr1 hF=>Bi (fun l w=>.inl ()=r1∧l=[(2,(ptr b1 0)),(3,(ptr b2 0))]∧Below w2.heap.size w2 w∧Ctx [] w0 w [Ag b2 [(I a2.1),u2],Ag b1 [(I a1.1),u1]]) ?_ ?_
 ·refine AJ<|wS (l':=[(2,(ptr b1 0)),(3,(ptr b2 0)),(5,(I 0))]) ⟨z,z,z,Aj⟩<|B2 (fun k l w=>∃x1:Int,l=[(2,(ptr b1 0)),(3,(ptr b2 0)),(5,(I x1))]∧Below w2.heap.size w2 w∧Ctx [] w0 w [Ag b2 [(I a2.1),u2],Ag b1 [(I a1.1),u1]]∧S.CompareFacts_l1 a1 a2 k x1=some r1) FUEL ⟨0,z,(Al _ _),hC2,hr1⟩<|?_
  clear hr1
  rintro k1 _ w3 ⟨x1,rfl,hB3,hC3,hL1⟩
  cases k1 with
  | zero=>rw [S.CompareFacts_l1] at hL1; cases hL1
  | succ k1 =>
   rw [S.CompareFacts_l1] at hL1
   refine A6<|be hL1 fun r2 hr2 hL1=>BI (fun l w=>∃x2:Bool,x2=r2∧l=[(2,(ptr b1 0)),(3,(ptr b2 0)),(5,(I x1)),(27,(.bool x2))]∧Below w3.heap.size w3 w∧Ctx [] w0 w [Ag b2 [(I a2.1),u2],Ag b1 [(I a1.1),u1]]) ?_ ?_
   ·refine Bg<|Ae z z<|fd A4 Az z z z z<|Aq hC3 1 z z AM z z<|Bc Ak g1 z z<|Bv z z z<|Ae z z<|Bz (fun hc3=>?_) (fun hc3=>?_)
    ·replace hr2:=A7 hr2 hc3
     refine Ah z z<|Ae z z<|Ah z z<|fd A4 Az z z z z<|Ah z z<|Aq hC3 0 z z AM z z<|Ah z z<|Bc Ak g2 z z<|Ah z z<|Bv z z z<|AW z z z<|Ab<|?_
     obtain rfl:=Aa hr2
     exact Am (l':=[(2,(ptr b1 0)),(3,(ptr b2 0)),(5,(I x1)),(27,(.bool (decide (x1 < (List.length a2.2:Int)))))]) ⟨z,z,z,z,Aj⟩<|⟨(decide (x1 < (List.length a2.2:Int))),z,z,(Al _ _),hC3⟩
    replace hr2:=A8 hr2 hc3
    refine gs z z z z<|gs z z z z<|gs z z z z<|gs z z z z<|gs z z z z<|AZ z z z<|Ab<|?_
    obtain rfl:=Aa hr2
    exact Am (l':=[(2,(ptr b1 0)),(3,(ptr b2 0)),(5,(I x1)),(27,(.bool false))]) ⟨z,z,z,z,Aj⟩<|⟨false,z,z,(Al _ _),hC3⟩
   rintro _ w4 ⟨x2,rfl,rfl,hB4,hC4⟩
   try dsimp only at hL1
   refine AE z (fun hc4=>?_) (fun hc4=>?_)
   ·replace hL1:=A7 hL1 hc4
    refine AF<|Ap<|A6<|AJ<|A6<|A6<|W_drawn 11 z hmix fun w5 hB5=>have hC5:=hC4.grow hB5;tf 0 A4 Az z z z z z<|tm 2 z z z<|tf 5 A4 Az z z z z z<|tm 7 z z z<|be hL1 fun x3 hx1 hL1=>be hL1 fun x4 hx2 hL1=>wAS (l':=[(2,(ptr b1 0)),(3,(ptr b2 0)),(5,(I x1)),(27,(.bool x2)),(30,(ptr b1 1)),(32,(I x1)),(35,(ptr b2 1)),(37,(I x1))]) ⟨z,z,z,z,z,z,z,z,Aj⟩<|Bq [⟨1,[],fun vs=>Ba u1,[]⟩,⟨3,[],fun vs=>BZ [] w0 x3,[]⟩,⟨4,[],fun vs=>Ba (I x3),[]⟩,⟨6,[],fun vs=>Ba u2,[]⟩,⟨8,[],fun vs=>BZ [] w0 x4,[]⟩,⟨9,[],fun vs=>Ba (I x4),[]⟩] [[],[1],[3],[],[6],[8]] 1 z (by kernel_rfl) (by kernel_rfl) z ?_ ?_
    ·refine An z ?_ ?_
     ·intro w6 hB6
      refine At<|⟨_,z,?_⟩
      exact Aq (hC5.grow hB6) 1 z z AM z z<|Ab<|Aw (Al _ _) z z ⟨z,z⟩
     refine An z ?_ ?_
     ·intro w6 hB6
      refine AD z z z ?_
      rintro _ _ ⟨rfl,rfl⟩ _
      refine At<|⟨_,z,?_⟩
      exact AH Ak ty3 g1 hx1 z z z fun b3 o1 h1=>Ab<|Aw (Al _ _) z z ⟨z,_,_,z,h1⟩
     refine An z ?_ ?_
     ·intro w6 hB6
      refine AD z z z ?_
      rintro _ _ ⟨rfl,b3,o1,rfl,h1⟩ _
      refine At<|⟨_,z,?_⟩
      refine AI ty3 h1 (hC5.keep.then hB6) z z (fun v1 h2=>?_)
      obtain rfl:=B8 h2
      exact Ab<|Aw (Al _ _) z z ⟨z,z⟩
     refine An z ?_ ?_
     ·intro w6 hB6
      refine At<|⟨_,z,?_⟩
      exact Aq (hC5.grow hB6) 0 z z AM z z<|Ab<|Aw (Al _ _) z z ⟨z,z⟩
     refine An z ?_ ?_
     ·intro w6 hB6
      refine AD z z z ?_
      rintro _ _ ⟨rfl,rfl⟩ _
      refine At<|⟨_,z,?_⟩
      exact AH Ak ty3 g2 hx2 z z z fun b4 o2 h3=>Ab<|Aw (Al _ _) z z ⟨z,_,_,z,h3⟩
     refine An z ?_ ?_
     ·intro w6 hB6
      refine AD z z z ?_
      rintro _ _ ⟨rfl,b4,o2,rfl,h3⟩ _
      refine At<|⟨_,z,?_⟩
      refine AI ty3 h3 (hC5.keep.then hB6) z z (fun v2 h4=>?_)
      obtain rfl:=B8 h4
      exact Ab<|Aw (Al _ _) z z ⟨z,z⟩
     exact Bj
    intro w7 hB7
    refine Ar z z z ?_
    rintro _ _ ⟨rfl,rfl⟩
    refine Ar z z z ?_
    rintro _ _ ⟨rfl,b3,o1,rfl,h1⟩
    refine Ar z z z ?_
    rintro _ _ ⟨rfl,rfl⟩
    refine Ar z z z ?_
    rintro _ _ ⟨rfl,rfl⟩
    refine Ar z z z ?_
    rintro _ _ ⟨rfl,b4,o2,rfl,h3⟩
    refine Ar z z z ?_
    rintro _ _ ⟨rfl,rfl⟩
    refine Bt fun hn1 hb1=>have hC6:=hC5.grow hB7;tk 10 z z (fl_lss z z)<|Bv z z z<|Ab<|dn<|Ap<|AE z (fun hc5=>?_) (fun hc5=>?_)
    ·replace hL1:=A7 hL1 hc5
     refine Ac<|Ad z z<|Ab<|AL<|Av<|Bd<|Av<|Av<|Bd<|Av<|Av<|?_
     obtain rfl:=Aa hL1
     dsimp only at hF
     obtain rfl:=Aa hF
     exact A2 z z<|⟨_,z,B4 hC6 _⟩
    replace hL1:=A8 hL1 hc5
    refine AF<|Ap<|A6<|W_drawn 11 z hmix fun w9 hB8=>have hC7:=hC6.grow hB8;tf 0 A4 Az z z z z z<|tm 2 z z z<|tf 5 A4 Az z z z z z<|tm 7 z z z<|be hL1 fun x5 hx3 hL1=>be hL1 fun x6 hx4 hL1=>wAS (l':=[(2,(ptr b1 0)),(3,(ptr b2 0)),(5,(I x1)),(27,(.bool x2)),(30,(ptr b1 1)),(31,u1),(32,(I x1)),(33,(ptr b3 o1)),(34,(I x3)),(35,(ptr b2 1)),(36,u2),(37,(I x1)),(38,(ptr b4 o2)),(39,(I x4)),(40,(.bool (decide (x3 < x4)))),(41,(ptr b1 1)),(43,(I x1)),(46,(ptr b2 1)),(48,(I x1))]) ⟨z,z,z,z,z,z,z,z,z,z,z,z,z,z,z,z,z,z,z,Aj⟩<|Bq [⟨1,[],fun vs=>Ba u1,[]⟩,⟨3,[],fun vs=>BZ [] w0 x5,[]⟩,⟨4,[],fun vs=>Ba (I x5),[]⟩,⟨6,[],fun vs=>Ba u2,[]⟩,⟨8,[],fun vs=>BZ [] w0 x6,[]⟩,⟨9,[],fun vs=>Ba (I x6),[]⟩] [[],[1],[3],[],[6],[8]] 1 z (by kernel_rfl) (by kernel_rfl) z ?_ ?_
    ·refine An z ?_ ?_
     ·intro w10 hB9
      refine At<|⟨_,z,?_⟩
      exact Aq (hC7.grow hB9) 1 z z AM z z<|Ab<|Aw (Al _ _) z z ⟨z,z⟩
     refine An z ?_ ?_
     ·intro w10 hB9
      refine AD z z z ?_
      rintro _ _ ⟨rfl,rfl⟩ _
      refine At<|⟨_,z,?_⟩
      exact AH Ak ty3 g1 hx3 z z z fun b5 o3 h5=>Ab<|Aw (Al _ _) z z ⟨z,_,_,z,h5⟩
     refine An z ?_ ?_
     ·intro w10 hB9
      refine AD z z z ?_
      rintro _ _ ⟨rfl,b5,o3,rfl,h5⟩ _
      refine At<|⟨_,z,?_⟩
      refine AI ty3 h5 (hC7.keep.then hB9) z z (fun v3 h6=>?_)
      obtain rfl:=B8 h6
      exact Ab<|Aw (Al _ _) z z ⟨z,z⟩
     refine An z ?_ ?_
     ·intro w10 hB9
      refine At<|⟨_,z,?_⟩
      exact Aq (hC7.grow hB9) 0 z z AM z z<|Ab<|Aw (Al _ _) z z ⟨z,z⟩
     refine An z ?_ ?_
     ·intro w10 hB9
      refine AD z z z ?_
      rintro _ _ ⟨rfl,rfl⟩ _
      refine At<|⟨_,z,?_⟩
      exact AH Ak ty3 g2 hx4 z z z fun b6 o4 h7=>Ab<|Aw (Al _ _) z z ⟨z,_,_,z,h7⟩
     refine An z ?_ ?_
     ·intro w10 hB9
      refine AD z z z ?_
      rintro _ _ ⟨rfl,b6,o4,rfl,h7⟩ _
      refine At<|⟨_,z,?_⟩
      refine AI ty3 h7 (hC7.keep.then hB9) z z (fun v4 h8=>?_)
      obtain rfl:=B8 h8
      exact Ab<|Aw (Al _ _) z z ⟨z,z⟩
     exact Bj
    intro w11 hB10
    refine Ar z z z ?_
    rintro _ _ ⟨rfl,rfl⟩
    refine Ar z z z ?_
    rintro _ _ ⟨rfl,b5,o3,rfl,h5⟩
    refine Ar z z z ?_
    rintro _ _ ⟨rfl,rfl⟩
    refine Ar z z z ?_
    rintro _ _ ⟨rfl,rfl⟩
    refine Ar z z z ?_
    rintro _ _ ⟨rfl,b6,o4,rfl,h7⟩
    refine Ar z z z ?_
    rintro _ _ ⟨rfl,rfl⟩
    refine Bt fun hn2 hb2=>have hC8:=hC7.grow hB10;tk 10 z z (Dd z z)<|Ca z z z<|Ab<|dn<|Ap<|AE z (fun hc6=>?_) (fun hc6=>?_)
    ·replace hL1:=A7 hL1 hc6
     refine Ac<|Ad z z<|Ab<|AL<|Bd<|Av<|Av<|Bd<|Av<|Av<|?_
     obtain rfl:=Aa hL1
     dsimp only at hF
     obtain rfl:=Aa hF
     exact A2 z z<|⟨_,z,B4 hC8 _⟩
    replace hL1:=A8 hL1 hc6
    exact AF<|AU<|Ap<|Bg<|Ae z z<|Bn z z z<|Ad z z<|Ab<|Am (l':=[(2,(ptr b1 0)),(3,(ptr b2 0)),(5,(I (w64 (x1+1))))]) ⟨z,z,z,Aj⟩<|⟨k1,A3 _,w64 (x1+1),z,((((((Ao hB3).then hB4).then hB5).then hB7).then hB8).then hB10).below,hC8,hL1⟩
   replace hL1:=A8 hL1 hc4
   refine B1 (A9 (A9 (Bk ?_)))
   obtain rfl:=Aa hL1
   exact Am (l':=[(2,(ptr b1 0)),(3,(ptr b2 0))]) ⟨z,z,Aj⟩<|⟨z,z,((Ao hB3).then hB4).below,hC4⟩
 rintro l3 _ w12 hs3 ⟨rfl,rfl,hB11,hC9⟩
 try dsimp only at hF
 refine AY hs3 ?_
 clear hs3
 refine A6<|Ac<|fd A4 Az z z z z<|Aq hC9 1 z z AM z z<|Bc Ak g1 z z<|fd A4 Az z z z z<|Aq hC9 0 z z AM z z<|Bc Ak g2 z z<|Bv z z z<|Ab<|AE z (fun hc7=>?_) (fun hc7=>?_)
 ·replace hF:=A7 hF hc7
  refine Ac<|Ad z z<|Ab<|AL<|Av<|?_
  obtain rfl:=Aa hF
  exact A2 z z<|⟨_,z,B4 hC9 _⟩
 replace hF:=A8 hF hc7
 refine AF<|Ap<|A6<|Ac<|fd A4 Az z z z z<|Aq hC9 1 z z AM z z<|Bc Ak g1 z z<|fd A4 Az z z z z<|Aq hC9 0 z z AM z z<|Bc Ak g2 z z<|Ca z z z<|Ab<|AE z (fun hc8=>?_) (fun hc8=>?_)
 ·replace hF:=A7 hF hc8
  refine Ac<|Ad z z<|Ab<|AL<|Av<|?_
  obtain rfl:=Aa hF
  exact A2 z z<|⟨_,z,B4 hC9 _⟩
 replace hF:=A8 hF hc8
 refine AF<|Ap<|Ac<|Ad z z<|Ab<|AL<|?_
 obtain rfl:=Aa hF
 exact A2 z z<|⟨_,z,B4 hC9 _⟩
theorem c_S_HasFact {w0:World} (a1:(List (Int × (List Int)))) (u1:Value) (g1:RO [] w0 u1 a1) (a2:(Int × (List Int))) (u2:Value) (g2:RO [] w0 u2 a2.2) (rr:Bool) (hF:S.HasFact a1 a2=some rr) :
 Calls Tryz.prog 81 [u1,(.agg #[(I a2.1),u2])].toArray w0 fun e w'=>∃v,e=.returned v∧Res w0 rr v w':=by
 refine Ax Tryz.func81 z z ?_
 have hC0:=A5 w0
 unfold S.HasFact at hF
 refine Ac<|Br (cs:=[(I a2.1),u2]) hC0 z z z fun b1 w1 hC1 hB1 hN1=>Ad z z<|Ab<|A6<|Ac<|Ad z z<|Ab<|be hF fun r1 hr1 hF=>Bi (fun l w=>.inl ()=r1∧l=[]∧Below w1.heap.size w1 w∧Ctx [] w0 w []) ?_ ?_
 ·refine AJ<|wS (l':=[(0,u1),(3,(ptr b1 0)),(5,(I 0))]) ⟨z,z,z,Aj⟩<|B2 (fun k l w=>∃x1:Int,l=[(0,u1),(3,(ptr b1 0)),(5,(I x1))]∧Below w1.heap.size w1 w∧Ctx [] w0 w [Ag b1 [(I a2.1),u2]]∧S.HasFact_l1 a1 a2 k x1=some r1) FUEL ⟨0,z,(Al _ _),hC1,hr1⟩<|?_
  clear hr1
  rintro k1 _ w2 ⟨x1,rfl,hB2,hC2,hL1⟩
  cases k1 with
  | zero=>rw [S.HasFact_l1] at hL1; cases hL1
  | succ k1 =>
   rw [S.HasFact_l1] at hL1
   refine A6<|Ac<|Ae z z<|Ae z z<|Bc Ai g1 z z<|Bv z z z<|Ab<|AE z (fun hc1=>?_) (fun hc1=>?_)
   ·replace hL1:=A7 hL1 hc1
    refine AF<|Ap<|A6<|AJ<|A6<|W_drawn 7 z hmix fun w3 hB3=>have hC3:=hC2.grow hB3;tm 0 z z z<|tm 1 z z z<|be hL1 fun x2 hx1 hL1=>tk 2 z z (BG Ai ty88 g1 hx1 z z)<|AH Ai ty88 g1 hx1 z z z fun b2 o1 h1=>Ab<|wAS (l':=[(0,u1),(3,(ptr b1 0)),(5,(I x1)),(6,(I x1)),(7,u1),(8,(I (List.length a1:Int))),(9,(.bool (decide (x1 < (List.length a1:Int))))),(12,u1),(13,(I x1)),(14,(ptr b2 o1))]) ⟨z,z,z,z,z,z,z,z,z,z,Aj⟩<|Bq [⟨3,[],fun vs=>Ce [] w0 x2,[]⟩,⟨4,[],fun vs=>Ba (.agg #[(I a2.1),u2]),[]⟩] [[],[]] 2 z (by kernel_rfl) (by kernel_rfl) z ?_ ?_
    ·refine An z ?_ ?_
     ·intro w4 hB4
      refine At<|⟨_,z,?_⟩
      exact AI ty88 h1 (hC3.keep.then hB4) z z fun v3 h4=>Ab<|Aw (Al _ _) z z ⟨z,h4⟩
     refine An z ?_ ?_
     ·intro w4 hB4
      refine At<|⟨_,z,?_⟩
      exact Au [(I a2.1),u2] (hC3.grow hB4) 0 z z z Bl AP z z<|Ab<|Aw (Al _ _) z z ⟨z,z⟩
     exact Bj
    intro w5 hB5
    refine Ar z z z ?_
    rintro v3 _ ⟨rfl,h4⟩
    obtain ⟨v2,rfl,h3⟩:=BD h4
    refine Ar z z z ?_
    rintro _ _ ⟨rfl,rfl⟩
    refine Bt fun hn1 hb1=>have hC4:=hC3.grow hB5;be hL1 fun x3 hr2 hL1=>oe 5 z<|ci C3 z z (c_S_CompareFacts x2 v2 (h3.now hC4.keep) (a2.1,a2.2) u2 (g2.now hC4.keep) x3 hr2) fun w6 hB6=>have hC5:=hC4.grow hB6;Ab<|tk 6 z z (CR z z)<|BM z z z<|Ab<|dn<|Ap<|AE z (fun hc2=>?_) (fun hc2=>?_)
    ·replace hL1:=A7 hL1 hc2
     refine Ac<|Ad z z<|Ab<|AL<|Bd<|Av<|Av<|Bd<|Av<|Av<|?_
     obtain rfl:=Aa hL1
     dsimp only at hF
     obtain rfl:=Aa hF
     exact A2 z z<|⟨_,z,AN hC5 _⟩
    replace hL1:=A8 hL1 hc2
    exact AF<|AU<|Ap<|Bg<|Ae z z<|Bn z z z<|Ad z z<|Ab<|Am (l':=[(0,u1),(3,(ptr b1 0)),(5,(I (w64 (x1+1))))]) ⟨z,z,z,Aj⟩<|⟨k1,A3 _,w64 (x1+1),z,((((Ao hB2).then hB3).then hB5).then hB6).below,hC5,hL1⟩
   replace hL1:=A8 hL1 hc1
   refine B1 (A9 (A9 (Bk ?_)))
   obtain rfl:=Aa hL1
   have hC6:=hC2.h0
   exact Am (l':=[]) Aj<|⟨z,z,(Ao hB2).below,hC6⟩
 rintro l2 _ w7 hs2 ⟨rfl,rfl,hB7,hC7⟩
 try dsimp only at hF
 refine AY hs2 ?_
 clear hs2
 refine Ac<|Ad z z<|Ab<|AL<|?_
 obtain rfl:=Aa hF
 exact A2 z z<|⟨_,z,AN hC7 _⟩
theorem c_S_l2One {w0:World} (a1:Int) (a2:(List Int)) (u1:Value) (g1:RO [] w0 u1 a2) (rr:(Int × (List Int))) (hF:S.l2One a1 a2=some rr) :
 Calls Tryz.prog 131 [(I a1),u1].toArray w0 fun e w'=>∃v,e=.returned v∧Res w0 rr v w':=by
 refine Ax Tryz.func131 z z ?_
 have hC0:=A5 w0
 unfold S.l2One at hF
 refine Ac<|Bw hC0 zero88 z z fun b1 w1 hC1 hB1 hN1=>Ab<|Ac<|Ae z z<|AC (vs:=[]) hC1 Ak ty3 z z z z (by simp) z z fun b2 w2 hC2 hB2=>?_
 have hC3:=hC2.row0 (α:=Int)
 have hC4:=hC3.front 1 z
 dsimp only [List.eraseIdx,List.cons_append,List.nil_append,List.append_nil] at hC4
 have hC5:Ctx [] w0 w2 (Af (.slice (some ⟨b2,0,none⟩) 0 0) (([]:List Int):List Int)::[Ag b1 [(I 0),(.slice none 0 0)]]):=hC4.rowOwn (by simp [maxLen])
 refine Ae z z<|be hF fun x1 hx1 hF=>BF (α:=Int) hC5 0 z g1 hC5.keep Ak ty3 z hx1 z z z fun v1 w3 hC6=>?_
 try dsimp only [List.set] at hC6
 refine BH (vs:=[(0,(I a1)),(1,v1)]) z z z (built88_0_1 z (B7 (hC6.ro 0 z)))<|AA (cs':=[(I a1),v1]) (new:=[(I a1),v1]) hC6 1 z z (fac z<|fac (B0 (hC6.ro 0 z))<|fa0) z AP z z fun w4 hC7 hKp1=>?_
 try dsimp only [List.set] at hC7
 refine Ab (AL ?_)
 obtain rfl:=Aa hF
 refine Cq z (rv_cell_agg (cs':=[(I a1),v1]) hC7 (i:=1) z z z Bl AP z) ?_
 have hC8:=Cc a1 v1 x1 hC7
 exact ⟨_,z,BY hC8 0 z⟩
theorem c_S_AddFact {w0:World} (a1:(List (Int × (List Int)))) (u1:Value) (g1:RO [] w0 u1 a1) (a2:(Int × (List Int))) (u2:Value) (g2:RO [] w0 u2 a2.2) (rr:(List (Int × (List Int)))) (hF:S.AddFact a1 a2=some rr) :
 Calls Tryz.prog 70 [u1,(.agg #[(I a2.1),u2])].toArray w0 fun e w'=>∃v,e=.returned v∧Res w0 rr v w':=by
 refine Ax Tryz.func70 z z ?_
 have hC0:=A5 w0
 unfold S.AddFact at hF
 refine Ac<|Br (cs:=[(I a2.1),u2]) hC0 z z z fun b1 w1 hC1 hB1 hN1=>Ad z z<|Ab<|Ac<|AC (vs:=[]) hC1 Ai ty88 z z z z (by simp) z z fun b2 w2 hC2 hB2=>?_
 have hC3:=hC2.row0 (α:=(Int × (List Int)))
 have hC4:=hC3.front 1 z
 dsimp only [List.eraseIdx,List.cons_append,List.nil_append,List.append_nil] at hC4
 have hC5:Ctx [] w0 w2 (Af (.slice (some ⟨b2,0,none⟩) 0 0) (([]:List (Int × (List Int))):List (Int × (List Int)))::[Ag b1 [(I a2.1),u2]]):=hC4.rowOwn (by simp [maxLen])
 refine Ad z z<|Ab<|Ac<|Ae z z<|Au [(I a2.1),u2] hC5 1 z z z Bl AP z z<|be hF fun x1 hr1 hF=>cb CS z z (c_S_HasFact a1 u1 (g1.now hC5.keep) (a2.1,a2.2) u2 (g2.now hC5.keep) x1 hr1) fun w3 hB3=>have hC6:=hC5.grow hB3;Ad z z<|Ab<|A6<|Ac<|Ad z z<|Ab<|be hF fun r1 hr2 hF=>Bi (fun l w=>∃v2:Value,∃x5:(List (Int × (List Int))),∃x6:Bool,(x5,x6)=r1∧l=[(3,(ptr b1 0)),(5,v2),(6,(.bool x6))]∧Ctx [] w0 w [Af v2 (x5:(List (Int × (List Int)))),Ag b1 [(I a2.1),u2]]) ?_ ?_
 ·refine AJ<|wS (l':=[(0,u1),(3,(ptr b1 0)),(5,(.slice (some ⟨b2,0,none⟩) 0 0)),(6,(.bool x1)),(7,(I 0))]) ⟨z,z,z,z,z,Aj⟩<|B2 (fun k l w=>∃v1:Value,∃x2:(List (Int × (List Int))),∃x3:Bool,∃x4:Int,l=[(0,u1),(3,(ptr b1 0)),(5,v1),(6,(.bool x3)),(7,(I x4))]∧Ctx [] w0 w [Af v1 (x2:(List (Int × (List Int)))),Ag b1 [(I a2.1),u2]]∧S.AddFact_l1 a1 a2 k x2 x3 x4=some r1) FUEL ⟨(.slice (some ⟨b2,0,none⟩) 0 0),([]:List (Int × (List Int))),x1,0,z,hC6,hr2⟩<|?_
  clear hr2
  rintro k1 _ w4 ⟨v1,x2,x3,x4,rfl,hC7,hL1⟩
  cases k1 with
  | zero=>rw [S.AddFact_l1] at hL1; cases hL1
  | succ k1 =>
   rw [S.AddFact_l1] at hL1
   refine A6<|Ac<|Ae z z<|Ae z z<|Bc Ai g1 z z<|Bv z z z<|Ab<|AE z (fun hc1=>?_) (fun hc1=>?_)
   ·replace hL1:=A7 hL1 hc1
    refine AF<|Ap<|A6<|AJ<|A6<|be hL1 fun r2 hr3 hL1=>BI (fun l w=>∃x7:Bool,x7=r2∧l=[(0,u1),(3,(ptr b1 0)),(5,v1),(6,(.bool x3)),(7,(I x4)),(28,(.bool x7))]∧Below w4.heap.size w4 w∧Ctx [] w0 w [Af v1 (x2:(List (Int × (List Int)))),Ag b1 [(I a2.1),u2]]) ?_ ?_
    ·refine W_drawn 11 z hmix fun w6 hB6=>have hC9:=hC7.grow hB6;tm 0 z z z<|tk 1 z z (Cl z)<|B3 z z<|Ab<|tm 2 z z z<|BC (fun hc2=>?_) (fun hc2=>?_)
     ·replace hr3:=A7 hr3 hc2
      refine tn 4 z z z z z<|tn 5 z z z z z<|be hr3 fun x8 hx1 hr3=>tg 6 z z z z (BG Ai ty88 g1 hx1 z z)<|Ah z z<|AH Ai ty88 g1 hx1 z z z fun b3 o1 h1=>Ab<|wAS (l':=[(0,u1),(3,(ptr b1 0)),(5,v1),(6,(.bool x3)),(7,(I x4)),(12,(I x4)),(13,u1),(14,(I (List.length a1:Int))),(15,(.bool (decide (x4 < (List.length a1:Int))))),(18,(.bool x3)),(19,(.bool (!x3))),(20,(.bool true)),(22,u1),(23,(I x4)),(24,(ptr b3 o1))]) ⟨z,z,z,z,z,z,z,z,z,z,z,z,z,z,z,Aj⟩<|Bq [⟨3,[],fun vs=>Ba (.agg #[(I a2.1),u2]),[]⟩,⟨7,[],fun vs=>Ce [] w0 x8,[]⟩] [[],[]] 3 z (by kernel_rfl) (by kernel_rfl) z ?_ ?_
      ·refine An z ?_ ?_
       ·intro w7 hB7
        refine At<|⟨_,z,?_⟩
        exact Ah z z<|Au [(I a2.1),u2] (hC9.grow hB7) 1 z z z Bl AP z z<|Ab<|Aw (Al _ _) z z ⟨z,z⟩
       refine An z ?_ ?_
       ·intro w7 hB7
        refine At<|⟨_,z,?_⟩
        exact Ah z z<|AI ty88 h1 (hC9.keep.then hB7) z z fun v5 h4=>Ab<|Aw (Al _ _) z z ⟨z,h4⟩
       exact Bj
      intro w9 hB8
      refine Ar z z z ?_
      rintro _ _ ⟨rfl,rfl⟩
      refine Ar z z z ?_
      rintro v5 _ ⟨rfl,h4⟩
      obtain ⟨v4,rfl,h3⟩:=BD h4
      refine Bt fun hn1 hb1=>have hC10:=hC9.grow hB8;be hr3 fun x9 hr4 hr3=>oe 8 z<|Ah z z<|ci C3 z z (c_S_CompareFacts (a2.1,a2.2) u2 (g2.now hC10.keep) x8 v4 (h3.now hC10.keep) x9 hr4) fun w10 hB9=>have hC11:=hC10.grow hB9;Ab<|tg 9 z z z z (fl_lss z z)<|Ah z z<|Bv z z z<|Ab<|tp 10 z z z z<|dn<|?_
      obtain rfl:=Aa hr3
      exact Am (l':=[(0,u1),(3,(ptr b1 0)),(5,v1),(6,(.bool x3)),(7,(I x4)),(28,(.bool (decide (x9 < 0))))]) ⟨z,z,z,z,z,z,Aj⟩<|⟨(decide (x9 < 0)),z,z,(((Ao hB6).then hB8).then hB9).below,hC11⟩
     replace hr3:=A8 hr3 hc2
     refine sk 3 z z z z z<|sk 4 z z z z z<|sk 5 z z z z z<|sk 6 z z z z z<|sk 7 z z z z z<|sk 8 z z z z z<|sk 9 z z z z z<|tq 10 z z z z<|dn<|?_
     obtain rfl:=Aa hr3
     exact Am (l':=[(0,u1),(3,(ptr b1 0)),(5,v1),(6,(.bool x3)),(7,(I x4)),(28,(.bool false))]) ⟨z,z,z,z,z,z,Aj⟩<|⟨false,z,z,(Ao hB6).below,hC9⟩
    rintro _ w5 ⟨x7,rfl,rfl,hB5,hC8⟩
    try dsimp only at hL1
    refine be hL1 fun r3 hr5 hL1=>Bi (fun l w=>∃v6:Value,∃x10:(List (Int × (List Int))),∃x11:Bool,(x10,x11)=r3∧l=[(0,u1),(3,(ptr b1 0)),(5,v6),(6,(.bool x11)),(7,(I x4))]∧Ctx [] w0 w [Af v6 (x10:(List (Int × (List Int)))),Ag b1 [(I a2.1),u2]]) ?_ ?_
    ·refine AE z (fun hc3=>?_) (fun hc3=>?_)
     ·replace hr5:=A7 hr5 hc3
      refine Ac<|Ae z z<|fd A4 Ay z z z z<|Aq hC8 1 z z AR z z<|fd A4 Az z z z z<|Aq hC8 1 z z AM z z<|be hr5 fun x12 hr6 hr5=>AG CF z z (c_S_l2One a2.1 a2.2 u2 (g2.now hC8.keep) x12 hr6)<|?_
      rintro v7 w12 ⟨hB11,F1,hv3,hn2,hb2⟩
      have hC13:=hC8.push hB11 (A:=Af v7 x12) hv3 hn2 hb2
      obtain ⟨v8,rfl,hC14⟩:=st88_own hC13
      refine AC (vs:=[(.agg #[(I x12.1),v8])]) hC14 Ai ty88 z z z z (fac z<|fa0) z z (fun b4 w13 hC15 hB12=>?_)
      have hC16:=hC15.row0 (α:=(Int × (List Int)))
      have hC18:=hC16.f2
      have hC17:=Cc x12.1 v8 x12.2 hC18
      have hC19:=hC17.row1
      have hC20:=hC19.front 1 z
      dsimp only [List.eraseIdx,List.cons_append,List.nil_append,List.append_nil] at hC20
      have hC21:Ctx [] w0 w13 (Af (.slice (some ⟨b4,0,none⟩) 1 1) ([(x12.1,x12.2)]:List (Int × (List Int)))::[Af v1 (x2:(List (Int × (List Int)))),Ag b1 [(I a2.1),u2]]):=hC20.rowOwn (by simp [maxLen])
      refine be hr5 fun x13 hx2 hr5=>By hC21 0 z Ai ty88 z hx2 z z z fun v9 w14 hC22=>?_
      try dsimp only [List.set] at hC22
      refine Ad z z<|Ab<|Bg<|Ad z z<|Ab<|?_
      obtain rfl:=Aa hr5
      exact Am (l':=[(0,u1),(3,(ptr b1 0)),(5,v9),(6,(.bool true)),(7,(I x4))]) ⟨z,z,z,z,z,Aj⟩<|⟨v9,x13,true,z,z,hC22⟩
     replace hr5:=A8 hr5 hc3
     refine AF ?_
     obtain rfl:=Aa hr5
     exact Am (l':=[(0,u1),(3,(ptr b1 0)),(5,v1),(6,(.bool x3)),(7,(I x4))]) ⟨z,z,z,z,z,Aj⟩<|⟨v1,x2,x3,z,z,hC8⟩
    rintro l3 _ w11 hs3 ⟨v6,x10,x11,rfl,rfl,hC12⟩
    try dsimp only at hL1
    refine AY hs3 ?_
    clear hs3
    refine W_drawn 15 z hmix fun w15 hB13=>have hC24:=hC12.grow hB13;tm 0 z z z<|tm 1 z z z<|tm 2 z z z<|be hL1 fun x14 hx3 hL1=>tk 3 z z (BG Ai ty88 g1 hx3 z z)<|AH Ai ty88 g1 hx3 z z z fun b5 o2 h5=>Ab<|tf 4 A4 Ay z z z z z<|tm 6 z z z<|tm 7 z z z<|be hL1 fun x15 hx4 hL1=>tk 8 z z (BG Ai ty88 g1 hx4 z z)<|AH Ai ty88 g1 hx4 z z z fun b6 o3 h6=>Ab<|tf 9 A4 Az z z z z z<|wAS (l':=[(0,u1),(3,(ptr b1 0)),(5,v6),(6,(.bool x11)),(7,(I x4)),(37,v6),(38,u1),(39,(I x4)),(40,(ptr b5 o2)),(41,(ptr b5 (o2+0))),(43,u1),(44,(I x4)),(45,(ptr b6 o3)),(46,(ptr b6 (o3+1)))]) ⟨z,z,z,z,z,z,z,z,z,z,z,z,z,z,Aj⟩<|Bq [⟨5,[],fun vs=>Ba (I x14.1),[]⟩,⟨10,[],fun vs=>Ce [] w0 x15.2,[]⟩] [[],[]] 4 z (by kernel_rfl) (by kernel_rfl) z ?_ ?_
    ·refine An z ?_ ?_
     ·intro w16 hB14
      refine At<|⟨_,z,?_⟩
      refine AI ty3 h5.fst (hC24.keep.then hB14) z z (fun v10 h7=>?_)
      obtain rfl:=B8 h7
      exact Ab<|Aw (Al _ _) z z ⟨z,z⟩
     refine An z ?_ ?_
     ·intro w16 hB14
      refine At<|⟨_,z,?_⟩
      exact AI ty24 h6.snd (hC24.keep.then hB14) z z fun v11 h8=>Ab<|Aw (Al _ _) z z ⟨z,h8⟩
     exact Bj
    intro w17 hB15
    refine Ar z z z ?_
    rintro _ _ ⟨rfl,rfl⟩
    refine Ar z z z ?_
    rintro v11 _ ⟨rfl,h8⟩
    refine Bt fun hn3 hb3=>have hC25:=hC24.grow hB15;be hL1 fun x16 hr7 hL1=>oe 11 z<|AG CF z z (c_S_l2One x14.1 x15.2 v11 (h8.now hC25.keep) x16 hr7)<|?_
    rintro v12 w18 ⟨hB16,F2,hv4,hn4,hb4⟩
    have hC26:=hC25.push hB16 (A:=Af v12 x16) hv4 hn4 hb4
    obtain ⟨v13,rfl,hC27⟩:=st88_own hC26
    refine Ab<|oe 12 z<|AC (vs:=[(.agg #[(I x16.1),v13])]) hC27 Ai ty88 z z z z (fac z<|fa0) z z fun b7 w19 hC28 hB17=>?_
    have hC29:=hC28.row0 (α:=(Int × (List Int)))
    have hC31:=hC29.f2
    have hC30:=Cc x16.1 v13 x16.2 hC31
    have hC32:=hC30.row1
    have hC33:=hC32.front 1 z
    dsimp only [List.eraseIdx,List.cons_append,List.nil_append,List.append_nil] at hC33
    have hC34:Ctx [] w0 w19 (Af (.slice (some ⟨b7,0,none⟩) 1 1) ([(x16.1,x16.2)]:List (Int × (List Int)))::[Af v6 (x10:(List (Int × (List Int)))),Ag b1 [(I a2.1),u2]]):=hC33.rowOwn (by simp [maxLen])
    refine Ab<|be hL1 fun x17 hx5 hL1=>oe 13 z<|By hC34 0 z Ai ty88 z hx5 z z z fun v14 w20 hC35=>?_
    try dsimp only [List.set] at hC35
    exact Ab<|ta 14 z z z<|dn<|AU<|Ap<|Bg<|Ae z z<|Bn z z z<|Ad z z<|Ab<|Am (l':=[(0,u1),(3,(ptr b1 0)),(5,v14),(6,(.bool x11)),(7,(I (w64 (x4+1))))]) ⟨z,z,z,z,z,Aj⟩<|⟨k1,A3 _,v14,x17,x11,w64 (x4+1),z,hC35,hL1⟩
   replace hL1:=A8 hL1 hc1
   refine B1 (A9 (A9 (Bk ?_)))
   obtain rfl:=Aa hL1
   exact Am (l':=[(3,(ptr b1 0)),(5,v1),(6,(.bool x3))]) ⟨z,z,z,Aj⟩<|⟨v1,x2,x3,z,z,hC7⟩
 rintro l4 _ w21 hs4 ⟨v2,x5,x6,rfl,rfl,hC37⟩
 try dsimp only at hF
 refine AY hs4 ?_
 clear hs4
 refine A6<|Ac<|Ae z z<|B3 z z<|Ab<|be hF fun r4 hr8 hF=>Bi (fun l w=>∃v15:Value,∃x18:(List (Int × (List Int))),x18=r4∧l=[(5,v15)]∧Ctx [] w0 w [Af v15 (x18:(List (Int × (List Int))))]) ?_ ?_
 ·refine AE z (fun hc4=>?_) (fun hc4=>?_)
  ·replace hr8:=A7 hr8 hc4
   refine Bg<|Ae z z<|fd A4 Ay z z z z<|Aq hC37 1 z z AR z z<|fd A4 Az z z z z<|Aq hC37 1 z z AM z z<|be hr8 fun x19 hr9 hr8=>AG CF z z (c_S_l2One a2.1 a2.2 u2 (g2.now hC37.keep) x19 hr9)<|?_
   rintro v16 w23 ⟨hB20,F3,hv5,hn5,hb5⟩
   have hC39:=hC37.push hB20 (A:=Af v16 x19) hv5 hn5 hb5
   obtain ⟨v17,rfl,hC40⟩:=st88_own hC39
   refine AC (vs:=[(.agg #[(I x19.1),v17])]) hC40 Ai ty88 z z z z (fac z<|fa0) z z (fun b8 w24 hC41 hB21=>?_)
   have hC42:=hC41.row0 (α:=(Int × (List Int)))
   have hC44:=hC42.f2
   have hC43:=Cc x19.1 v17 x19.2 hC44
   have hC45:=hC43.row1
   have hC46:=hC45.front 1 z
   dsimp only [List.eraseIdx,List.cons_append,List.nil_append,List.append_nil] at hC46
   have hC47:Ctx [] w0 w24 (Af (.slice (some ⟨b8,0,none⟩) 1 1) ([(x19.1,x19.2)]:List (Int × (List Int)))::[Af v2 (x5:(List (Int × (List Int)))),Ag b1 [(I a2.1),u2]]):=hC46.rowOwn (by simp [maxLen])
   refine be hr8 fun x20 hx6 hr8=>By hC47 0 z Ai ty88 z hx6 z z z fun v18 w25 hC48=>?_
   try dsimp only [List.set] at hC48
   refine Ad z z<|Ab<|?_
   obtain rfl:=Aa hr8
   have hC50:=hC48.h1
   exact Am (l':=[(5,v18)]) ⟨z,Aj⟩<|⟨v18,x20,z,z,hC50⟩
  replace hr8:=A8 hr8 hc4
  refine AF ?_
  obtain rfl:=Aa hr8
  have hC51:=hC37.h1
  exact Am (l':=[(5,v2)]) ⟨z,Aj⟩<|⟨v2,x5,z,z,hC51⟩
 rintro l5 _ w22 hs5 ⟨v15,x18,rfl,rfl,hC38⟩
 try dsimp only at hF
 refine AY hs5 ?_
 clear hs5
 refine Ac<|Ae z z<|Ad z z<|Ab<|AL<|?_
 obtain rfl:=Aa hF
 exact A2 z z<|⟨_,z,BY hC38 0 z⟩
theorem c_S_l2Fact {w0:World} {Fs:List (List Nat)} (pb1:Nat) (a1:((List UInt8) × Int × Int)) (u1:Value) (g1:RO Fs.flatten w0 u1 a1.1) (a2:(List Int)) (u2:Value) (g2:RO Fs.flatten w0 u2 a2) (a3:Int) (hH:Hold [Ag pb1 [u1,(I a1.2.1),(I a1.2.2)]] w0 Fs) (hn:Fs.flatten.Nodup) (rr:((Int × (List Int)) × ((List UInt8) × Int × Int))) (hF:S.l2Fact a1 a2 a3=some rr) :
 Calls Tryz.prog 202 [(ptr pb1 0),u2,(I a3)].toArray w0 fun e w'=>∃v,e=.returned v∧∃q0:Value,v=q0∧Ctx Fs.flatten w0 w' [Af q0 (rr.1:(Int × (List Int))),Ag pb1 [u1,(I rr.2.2.1),(I rr.2.2.2)]]:=by
 refine Ax Tryz.func202 z z ?_
 have hC0:=BE hH hn
 unfold S.l2Fact at hF
 refine Ac<|Bw hC0 zero88 z z fun b1 w1 hC1 hB1 hN1=>Ab<|Ac<|Ae z z<|Ae z z<|Bc Ak g2 z z<|be hF fun x1 hr1 hF=>have hC2:=hC1.f1;?_
 obtain ⟨Fs1,hH1,hn1,hF1,hO1,hb1⟩:=AX (As:=[Ag b1 [(I 0),(.slice none 0 0)]]) [Ag pb1 [u1,(I a1.2.1),(I a1.2.2)]] hC2
 refine AG Bo z z (c_S_l1Below pb1 (a1.1,a1.2.1,a1.2.2) u1 (Bf g1 hC2.keep hF1) (List.length a2:Int) hH1 hn1 x1 hr1) ?_
 rintro _ w2 ⟨rfl,hq1⟩
 have hC3:Ctx Fs.flatten w0 w2 [Ag pb1 [u1,(I x1.2.2.1),(I x1.2.2.2)],Ag b1 [(I 0),(.slice none 0 0)]]:=hb1 _ _ hq1
 refine BH (vs:=[(0,(I x1.1))]) z z z (built88_0 z)<|Bw hC3 zero88 z z fun b2 w3 hC4 hB2 hN2=>AA (cs':=[(I x1.1),(.slice none 0 0)]) (new:=[(I x1.1),(.slice none 0 0)]) hC4 0 z z (fac z<|fac z<|fa0) z AP z z fun w4 hC5 hKp1=>?_
 try dsimp only [List.set] at hC5
 have hk1:=AO (Ao hB2) hN2 hKp1
 refine Ab<|A6<|Ac<|Ad z z<|Ab<|be hF fun r1 hr2 hF=>Bi (fun l w=>∃x7:Int,∃v2:Value,∃x8:(List Int),∃x9:Int,∃x10:Int,(x7,x8,x9,x10)=r1∧l=[(6,(ptr b1 0)),(7,(ptr b2 0))]∧Ctx Fs.flatten w0 w [Af v2 (x8:(List Int)),Ag b2 [(I x7),v2],Ag pb1 [u1,(I x9),(I x10)],Ag b1 [(I 0),(.slice none 0 0)]]) ?_ ?_
 ·refine AJ ?_
  have hC22:=hC5.triv (nil_val (α:=Int))
  refine wS (l':=[(0,(ptr pb1 0)),(1,u2),(2,(I a3)),(6,(ptr b1 0)),(7,(ptr b2 0)),(8,(I 0))]) ⟨z,z,z,z,z,z,Aj⟩<|B2 (fun k l w=>∃x2:Int,∃v1:Value,∃x3:(List Int),∃x4:Int,∃x5:Int,∃x6:Int,l=[(0,(ptr pb1 0)),(1,u2),(2,(I a3)),(6,(ptr b1 0)),(7,(ptr b2 0)),(8,(I x6))]∧Ctx Fs.flatten w0 w [Af v1 (x3:(List Int)),Ag b2 [(I x2),v1],Ag pb1 [u1,(I x4),(I x5)],Ag b1 [(I 0),(.slice none 0 0)]]∧S.l2Fact_l1 a2 a1 a3 k x2 x3 x4 x5 x6=some r1) FUEL ⟨x1.1,(.slice none 0 0),[],x1.2.2.1,x1.2.2.2,0,z,hC22,hr2⟩<|?_
  clear hr2
  rintro k1 _ w5 ⟨x2,v1,x3,x4,x5,x6,rfl,hC6,hL1⟩
  cases k1 with
  | zero=>rw [S.l2Fact_l1] at hL1; cases hL1
  | succ k1 =>
   rw [S.l2Fact_l1] at hL1
   refine A6<|Ac<|Ae z z<|Ae z z<|fd A4 Ay z z z z<|Aq hC6 1 z z AR z z<|be hL1 fun x11 hx1 hL1=>AH Ak ty3 g2 hx1 z z z fun b3 o1 h1=>AI ty3 h1 hC6.keep z z fun v3 h2=>?_
   obtain rfl:=B8 h2
   refine Bv z z z<|Ab<|AE z (fun hc1=>?_) (fun hc1=>?_)
   ·replace hL1:=A7 hL1 hc1
    refine AF<|Ap<|A6<|AJ<|Ac<|Ae z z<|Ae z z<|be hL1 fun x12 hr3 hL1=>have hC7:=hC6.f2;?_
    obtain ⟨Fs2,hH2,hn2,hF2,hO2,hb2⟩:=AX (As:=[Af v1 (x3:(List Int)),Ag b2 [(I x2),v1],Ag b1 [(I 0),(.slice none 0 0)]]) [Ag pb1 [u1,(I x4),(I x5)]] hC7
    refine AG Bo z z (c_S_l1Below pb1 (a1.1,x4,x5) u1 (Bf g1 hC7.keep hF2) a3 hH2 hn2 x12 hr3) ?_
    rintro _ w6 ⟨rfl,hq2⟩
    have hC8:Ctx Fs.flatten w0 w6 [Ag pb1 [u1,(I x12.2.2.1),(I x12.2.2.2)],Af v1 (x3:(List Int)),Ag b2 [(I x2),v1],Ag b1 [(I 0),(.slice none 0 0)]]:=hb2 _ _ hq2
    refine Ad z z<|Ab<|Bg<|fd A4 Az z z z z<|Aq hC8 2 z z AM z z<|Ae z z<|AC (vs:=[(I x12.1)]) hC8 Ak ty3 z z z z (fac z<|fa0) z z fun b4 w7 hC9 hB4=>?_
    have hC10:=hC9.row0 (α:=Int)
    have hC11:=hC10.triv (Bx (x12.1))
    have hC12:=hC11.row1
    have hC13:=hC12.front 1 z
    dsimp only [List.eraseIdx,List.cons_append,List.nil_append,List.append_nil] at hC13
    have hC14:Ctx Fs.flatten w0 w7 (Af (.slice (some ⟨b4,0,none⟩) 1 1) ([x12.1]:List Int)::[Ag pb1 [u1,(I x12.2.2.1),(I x12.2.2.2)],Af v1 (x3:(List Int)),Ag b2 [(I x2),v1],Ag b1 [(I 0),(.slice none 0 0)]]):=hC13.rowOwn (by simp [maxLen])
    refine be hL1 fun x13 hx2 hL1=>BF (α:=Int) hC14 2 z (hC14.ro 0 z) (A1 _ _) Ak ty3 z hx2 z z z fun v4 w9 hC15=>?_
    try dsimp only [List.set] at hC15
    refine fd A4 Az z z z z<|B9 (cs':=[(I x2),v4]) hC15 3 z z (B0 (hC15.ro 2 z)) z Az z z fun w10 hC16 hKp2=>?_
    try dsimp only [List.set] at hC16
    exact Ab<|AU<|Ap<|Bg<|Ae z z<|Bn z z z<|Ad z z<|Ab<|have hC17:=hC16.f4;have hC18:=hC17.f2;have hC19:=hC18.f4;have hC20:=hC19.f4;have hC21:=hC20.h4;Am (l':=[(0,(ptr pb1 0)),(1,u2),(2,(I a3)),(6,(ptr b1 0)),(7,(ptr b2 0)),(8,(I (w64 (x6+1))))]) ⟨z,z,z,z,z,z,Aj⟩<|⟨k1,A3 _,x2,v4,x13,x12.2.2.1,x12.2.2.2,w64 (x6+1),z,hC21,hL1⟩
   replace hL1:=A8 hL1 hc1
   refine B1 (A9 (A9 (Bk ?_)))
   obtain rfl:=Aa hL1
   exact Am (l':=[(6,(ptr b1 0)),(7,(ptr b2 0))]) ⟨z,z,Aj⟩<|⟨x2,v1,x3,x4,x5,z,z,hC6⟩
 rintro l2 _ w11 hs2 ⟨x7,v2,x8,x9,x10,rfl,rfl,hC23⟩
 try dsimp only at hF
 refine AY hs2 ?_
 clear hs2
 refine Ac<|Au [(I x7),v2] hC23 1 z z z Bl AP z z<|AA (cs':=[(I x7),v2]) (new:=[(I x7),v2]) hC23 3 z z (fac z<|fac (B0 (hC23.ro 0 z))<|fa0) z AP z z fun w12 hC24 hKp3=>?_
 try dsimp only [List.set] at hC24
 refine Ab (AL ?_)
 obtain rfl:=Aa hF
 refine Cq z (rv_cell_agg (cs':=[(I x7),v2]) hC24 (i:=3) z z z Bl AP z)<|have hC25:=hC24.f2;have hC27:=hC25.f1;?_
 have hC26:=Cc x7 v2 x8 hC27
 have hC28:=hC26.h2
 exact ⟨_,z,_,z,hC28⟩
theorem c_S_l2Facts {w0:World} {Fs:List (List Nat)} (pb1:Nat) (a1:((List UInt8) × Int × Int)) (u1:Value) (g1:RO Fs.flatten w0 u1 a1.1) (a2:(List Int)) (u2:Value) (g2:RO Fs.flatten w0 u2 a2) (a3:Int) (hH:Hold [Ag pb1 [u1,(I a1.2.1),(I a1.2.2)]] w0 Fs) (hn:Fs.flatten.Nodup) (rr:((List (Int × (List Int))) × ((List UInt8) × Int × Int))) (hF:S.l2Facts a1 a2 a3=some rr) :
 Calls Tryz.prog 168 [(ptr pb1 0),u2,(I a3)].toArray w0 fun e w'=>∃v,e=.returned v∧∃q0:Value,v=q0∧Ctx Fs.flatten w0 w' [Af q0 (rr.1:(List (Int × (List Int)))),Ag pb1 [u1,(I rr.2.2.1),(I rr.2.2.2)]]:=by
 refine Ax Tryz.func168 z z ?_
 have hC0:=BE hH hn
 unfold S.l2Facts at hF
 refine Ac<|Ad z z<|Ab<|Ac<|AC (vs:=[]) hC0 Ai ty88 z z z z (by simp) z z fun b1 w1 hC1 hB1=>?_
 have hC2:=hC1.row0 (α:=(Int × (List Int)))
 have hC3:=hC2.front 1 z
 dsimp only [List.eraseIdx,List.cons_append,List.nil_append,List.append_nil] at hC3
 have hC4:Ctx Fs.flatten w0 w1 (Af (.slice (some ⟨b1,0,none⟩) 0 0) (([]:List (Int × (List Int))):List (Int × (List Int)))::[Ag pb1 [u1,(I a1.2.1),(I a1.2.2)]]):=hC3.rowOwn (by simp [maxLen])
 refine Ad z z<|Ab<|A6<|Ac<|Ae z z<|Ae z z<|Bn z z z<|be hF fun x1 hr1 hF=>have hC5:=hC4.f1;?_
 obtain ⟨Fs1,hH1,hn1,hF1,hO1,hb1⟩:=AX (As:=[Af (.slice (some ⟨b1,0,none⟩) 0 0) (([]:List (Int × (List Int))):(List (Int × (List Int))))]) [Ag pb1 [u1,(I a1.2.1),(I a1.2.2)]] hC5
 refine AG Bo z z (c_S_l1Below pb1 (a1.1,a1.2.1,a1.2.2) u1 (Bf g1 hC5.keep hF1) (w64 (a3+1)) hH1 hn1 x1 hr1) ?_
 rintro _ w2 ⟨rfl,hq1⟩
 have hC6:Ctx Fs.flatten w0 w2 [Ag pb1 [u1,(I x1.2.2.1),(I x1.2.2.2)],Af (.slice (some ⟨b1,0,none⟩) 0 0) (([]:List (Int × (List Int))):(List (Int × (List Int))))]:=hb1 _ _ hq1
 refine Ad z z<|Ab<|be hF fun r1 hr2 hF=>Bi (fun l w=>∃x6:Int,∃x7:Int,∃v2:Value,∃x8:(List (Int × (List Int))),(x6,x7,x8)=r1∧l=[(7,v2)]∧Ctx Fs.flatten w0 w [Ag pb1 [u1,(I x6),(I x7)],Af v2 (x8:(List (Int × (List Int))))]) ?_ ?_
 ·refine AJ<|wS (l':=[(0,(ptr pb1 0)),(1,u2),(7,(.slice (some ⟨b1,0,none⟩) 0 0)),(8,(I x1.1))]) ⟨z,z,z,z,Aj⟩<|B2 (fun k l w=>∃x2:Int,∃x3:Int,∃v1:Value,∃x4:(List (Int × (List Int))),∃x5:Int,l=[(0,(ptr pb1 0)),(1,u2),(7,v1),(8,(I x5))]∧Ctx Fs.flatten w0 w [Ag pb1 [u1,(I x2),(I x3)],Af v1 (x4:(List (Int × (List Int))))]∧S.l2Facts_l1 a1 a2 k x2 x3 x4 x5=some r1) FUEL ⟨x1.2.2.1,x1.2.2.2,(.slice (some ⟨b1,0,none⟩) 0 0),([]:List (Int × (List Int))),x1.1,z,hC6,hr2⟩<|?_
  clear hr2
  rintro k1 _ w3 ⟨x2,x3,v1,x4,x5,rfl,hC7,hL1⟩
  cases k1 with
  | zero=>rw [S.l2Facts_l1] at hL1; cases hL1
  | succ k1 =>
   rw [S.l2Facts_l1] at hL1
   refine A6<|Ac<|Ae z z<|Ca z z z<|Ab<|AE z (fun hc1=>?_) (fun hc1=>?_)
   ·replace hL1:=A7 hL1 hc1
    refine AF<|Ap<|A6<|AJ<|Bg<|Ae z z<|Ae z z<|Ae z z<|be hL1 fun x9 hr3 hL1=>?_
    obtain ⟨Fs2,hH2,hn2,hF2,hO2,hb2⟩:=AX (As:=[Af v1 (x4:(List (Int × (List Int))))]) [Ag pb1 [u1,(I x2),(I x3)]] hC7
    refine AG Tryz.call202 z z (c_S_l2Fact pb1 (a1.1,x2,x3) u1 (Bf g1 hC7.keep hF2) a2 u2 (Bf g2 hC7.keep hF2) 4 hH2 hn2 x9 hr3) ?_
    rintro v3 w4 ⟨_,rfl,hq2⟩
    have hC8:Ctx Fs.flatten w0 w4 [Af v3 (x9.1:(Int × (List Int))),Ag pb1 [u1,(I x9.2.2.1),(I x9.2.2.2)],Af v1 (x4:(List (Int × (List Int))))]:=hb2 _ _ hq2
    obtain ⟨v4,rfl,hC9⟩:=st88_own hC8
    refine be hL1 fun x10 hr4 hL1=>AG CT z z (c_S_AddFact x4 v1 ((hC9.ro 2 z).now (A1 _ _)) x9.1 v4 ((hC9.ro 0 z).now (A1 _ _)) x10 hr4)<|?_
    rintro v5 w5 ⟨hB3,F1,hv1,hn3,hb3⟩
    have hC10:=hC9.push hB3 (A:=Af v5 x10) hv1 hn3 hb3
    exact Ad z z<|Ab<|AU<|Ap<|Bg<|Ae z z<|BR z z z<|Ad z z<|Ab<|have hC11:=hC10.f2;have hC12:=hC11.h2;Am (l':=[(0,(ptr pb1 0)),(1,u2),(7,v5),(8,(I (w64 (x5 - 1))))]) ⟨z,z,z,z,Aj⟩<|⟨k1,A3 _,x9.2.2.1,x9.2.2.2,v5,x10,w64 (x5 - 1),z,hC12,hL1⟩
   replace hL1:=A8 hL1 hc1
   refine B1 (A9 (A9 (Bk ?_)))
   obtain rfl:=Aa hL1
   exact Am (l':=[(7,v1)]) ⟨z,Aj⟩<|⟨x2,x3,v1,x4,z,z,hC7⟩
 rintro l2 _ w6 hs2 ⟨x6,x7,v2,x8,rfl,rfl,hC13⟩
 try dsimp only at hF
 refine AY hs2 ?_
 clear hs2
 refine Ac<|Ae z z<|Ad z z<|Ab<|AL<|?_
 obtain rfl:=Aa hF
 exact A2 z z<|have hC14:=hC13.f1;⟨_,z,_,z,hC14⟩
theorem c_S_l1PickInt {w0:World} {Fs:List (List Nat)} (pb1:Nat) (a1:((List UInt8) × Int × Int)) (u1:Value) (g1:RO Fs.flatten w0 u1 a1.1) (a2:(List Int)) (u2:Value) (g2:RO Fs.flatten w0 u2 a2) (hH:Hold [Ag pb1 [u1,(I a1.2.1),(I a1.2.2)]] w0 Fs) (hn:Fs.flatten.Nodup) (rr:(Int × ((List UInt8) × Int × Int))) (hF:S.l1PickInt a1 a2=some rr) :
 Calls Tryz.prog 173 [(ptr pb1 0),u2].toArray w0 fun e w'=>∃v,e=.returned v∧v=(I rr.1)∧Ctx Fs.flatten w0 w' [Ag pb1 [u1,(I rr.2.2.1),(I rr.2.2.2)]]:=by
 refine Ax Tryz.func173 z z ?_
 have hC0:=BE hH hn
 unfold S.l1PickInt at hF
 refine Ac<|Ad z z<|Ab<|Ac<|Ae z z<|Ae z z<|Ae z z<|Bc Ak g2 z z<|be hF fun x1 hr1 hF=>?_
 obtain ⟨Fs1,hH1,hn1,hF1,hO1,hb1⟩:=AX (As:=[]) [Ag pb1 [u1,(I a1.2.1),(I a1.2.2)]] hC0
 refine AG Bo z z (c_S_l1Below pb1 (a1.1,a1.2.1,a1.2.2) u1 (Bf g1 hC0.keep hF1) (List.length a2:Int) hH1 hn1 x1 hr1) ?_
 rintro _ w1 ⟨rfl,hq1⟩
 have hC1:Ctx Fs.flatten w0 w1 [Ag pb1 [u1,(I x1.2.2.1),(I x1.2.2.2)]]:=hb1 _ _ hq1
 refine be hF fun x2 hx1 hF=>AH Ak ty3 g2 hx1 z z z fun b1 o1 h1=>AI ty3 h1 hC1.keep z z fun v1 h2=>?_
 obtain rfl:=B8 h2
 refine Ad z z<|Ab<|AL<|?_
 obtain rfl:=Aa hF
 exact A2 z z<|⟨_,z,z,hC1⟩
theorem c_S_l2AnyFact {w0:World} {Fs:List (List Nat)} (pb1:Nat) (a1:((List UInt8) × Int × Int)) (u1:Value) (g1:RO Fs.flatten w0 u1 a1.1) (a2:(List Int)) (u2:Value) (g2:RO Fs.flatten w0 u2 a2) (hH:Hold [Ag pb1 [u1,(I a1.2.1),(I a1.2.2)]] w0 Fs) (hn:Fs.flatten.Nodup) (rr:((Int × (List Int)) × ((List UInt8) × Int × Int))) (hF:S.l2AnyFact a1 a2=some rr) :
 Calls Tryz.prog 174 [(ptr pb1 0),u2].toArray w0 fun e w'=>∃v,e=.returned v∧∃q0:Value,v=q0∧Ctx Fs.flatten w0 w' [Af q0 (rr.1:(Int × (List Int))),Ag pb1 [u1,(I rr.2.2.1),(I rr.2.2.2)]]:=by
 refine Ax Tryz.func174 z z ?_
 have hC0:=BE hH hn
 unfold S.l2AnyFact at hF
 refine Ac<|Bw hC0 zero88 z z fun b1 w1 hC1 hB1 hN1=>Ab<|Ac<|AC (vs:=[(I 1)]) hC1 Ak ty3 z z z z (fac z<|fa0) z z fun b2 w2 hC2 hB2=>?_
 have hC3:=hC2.row0 (α:=Int)
 have hC4:=hC3.triv (Bx (1))
 have hC5:=hC4.row1
 have hC6:=hC5.front 1 z
 dsimp only [List.eraseIdx,List.cons_append,List.nil_append,List.append_nil] at hC6
 have hC7:Ctx Fs.flatten w0 w2 (Af (.slice (some ⟨b2,0,none⟩) 1 1) ([1]:List Int)::[Ag b1 [(I 0),(.slice none 0 0)],Ag pb1 [u1,(I a1.2.1),(I a1.2.2)]]):=hC6.rowOwn (by simp [maxLen])
 refine BH (vs:=[(1,(.slice (some ⟨b2,0,none⟩) 1 1))]) z z z (built88_1 (B7 (hC7.ro 0 z)))<|Bw hC7 zero88 z z fun b3 w3 hC8 hB3 hN2=>AA (cs':=[(I 0),(.slice (some ⟨b2,0,none⟩) 1 1)]) (new:=[(I 0),(.slice (some ⟨b2,0,none⟩) 1 1)]) hC8 0 z z (fac z<|fac (B0 (hC8.ro 1 z))<|fa0) z AP z z fun w4 hC9 hKp1=>?_
 try dsimp only [List.set] at hC9
 have hk1:=AO (((Ao hB1).then hB2).then hB3) (AS ((Ao hB1).then hB2).size hN2) hKp1
 have hk2:=AO ((Ao hB2).then hB3) (AS (Ao hB2).size hN2) hKp1
 have hk3:=AO (Ao hB3) hN2 hKp1
 refine Ab<|A6<|Ac<|Ae z z<|be hF fun x1 hr1 hF=>cb BX z z (c_S_IsSchema a2 u2 (g2.now hC9.keep) x1 hr1) fun w5 hB4=>have hC10:=hC9.grow hB4;Ab<|be hF fun r1 hr2 hF=>Bi (fun l w=>∃x2:Int,∃v1:Value,∃x3:(List Int),∃x4:Int,∃x5:Int,(x2,x3,x4,x5)=r1∧l=[(0,(ptr pb1 0)),(4,(ptr b1 0)),(5,(ptr b3 0))]∧Ctx Fs.flatten w0 w [Ag b3 [(I x2),v1],Af v1 (x3:(List Int)),Ag b1 [(I 0),(.slice none 0 0)],Ag pb1 [u1,(I x4),(I x5)]]) ?_ ?_
 ·refine AE z (fun hc1=>?_) (fun hc1=>?_)
  ·replace hr2:=A7 hr2 hc1
   refine Bg<|Ae z z<|Ae z z<|be hr2 fun x6 hr3 hr2=>have hC12:=hC10.f3;?_
   obtain ⟨Fs1,hH1,hn1,hF1,hO1,hb1⟩:=AX (As:=[Ag b3 [(I 0),(.slice (some ⟨b2,0,none⟩) 1 1)],Af (.slice (some ⟨b2,0,none⟩) 1 1) ([1]:(List Int)),Ag b1 [(I 0),(.slice none 0 0)]]) [Ag pb1 [u1,(I a1.2.1),(I a1.2.2)]] hC12
   refine AG Tryz.call202 z z (c_S_l2Fact pb1 (a1.1,a1.2.1,a1.2.2) u1 (Bf g1 hC12.keep hF1) a2 u2 (Bf g2 hC12.keep hF1) 10 hH1 hn1 x6 hr3) ?_
   rintro v2 w7 ⟨_,rfl,hq1⟩
   have hC13:Ctx Fs.flatten w0 w7 [Af v2 (x6.1:(Int × (List Int))),Ag pb1 [u1,(I x6.2.2.1),(I x6.2.2.2)],Ag b3 [(I 0),(.slice (some ⟨b2,0,none⟩) 1 1)],Af (.slice (some ⟨b2,0,none⟩) 1 1) ([1]:(List Int)),Ag b1 [(I 0),(.slice none 0 0)]]:=hb1 _ _ hq1
   obtain ⟨v3,rfl,hC14⟩:=st88_own hC13
   refine AA (cs':=[(I x6.1.1),v3]) (new:=[(I x6.1.1),v3]) hC14 2 z z (fac z<|fac (B0 (hC14.ro 0 z))<|fa0) z AP z z (fun w9 hC15 hKp2=>?_)
   try dsimp only [List.set] at hC15
   refine Ab ?_
   obtain rfl:=Aa hr2
   have hC16:=hC15.f1
   have hC17:=hC16.f4
   have hC18:=hC17.f2
   have hC19:=hC18.f3
   have hC20:=hC19.h4
   exact Am (l':=[(0,(ptr pb1 0)),(4,(ptr b1 0)),(5,(ptr b3 0))]) ⟨z,z,z,Aj⟩<|⟨x6.1.1,v3,x6.1.2,x6.2.2.1,x6.2.2.2,z,z,hC20⟩
  replace hr2:=A8 hr2 hc1
  refine AF ?_
  obtain rfl:=Aa hr2
  exact Am (l':=[(0,(ptr pb1 0)),(4,(ptr b1 0)),(5,(ptr b3 0))]) ⟨z,z,z,Aj⟩<|⟨0,(.slice (some ⟨b2,0,none⟩) 1 1),[1],a1.2.1,a1.2.2,z,z,hC10⟩
 rintro l1 _ w6 hs1 ⟨x2,v1,x3,x4,x5,rfl,rfl,hC11⟩
 try dsimp only at hF
 refine AY hs1 ?_
 clear hs1
 refine A6<|Ac<|Ae z z<|be hF fun x7 hr4 hF=>have hC21:=hC11.f3;?_
 obtain ⟨Fs2,hH2,hn2,hF2,hO2,hb2⟩:=AX (As:=[Ag b3 [(I x2),v1],Af v1 (x3:(List Int)),Ag b1 [(I 0),(.slice none 0 0)]]) [Ag pb1 [u1,(I x4),(I x5)]] hC21
 refine AG Bo z z (c_S_l1Below pb1 (a1.1,x4,x5) u1 (Bf g1 hC21.keep hF2) 8 hH2 hn2 x7 hr4) ?_
 rintro _ w10 ⟨rfl,hq4⟩
 have hC22:Ctx Fs.flatten w0 w10 [Ag pb1 [u1,(I x7.2.2.1),(I x7.2.2.2)],Ag b3 [(I x2),v1],Af v1 (x3:(List Int)),Ag b1 [(I 0),(.slice none 0 0)]]:=hb2 _ _ hq4
 refine Ab<|AJ<|Ac<|BM z z z<|Ad z z<|Ab<|be hF fun r2 hr5 hF=>Bi (fun l w=>∃x8:Int,∃x9:Int,∃x10:Int,∃v4:Value,∃x11:(List Int),(x8,x9,x10,x11)=r2∧l=[(4,(ptr b1 0)),(5,(ptr b3 0))]∧Ctx Fs.flatten w0 w [Ag pb1 [u1,(I x8),(I x9)],Ag b3 [(I x10),v4],Af v4 (x11:(List Int)),Ag b1 [(I 0),(.slice none 0 0)]]) ?_ ?_
 ·refine AE z (fun hc2=>?_) (fun hc2=>?_)
  ·replace hr5:=A7 hr5 hc2
   refine Bg<|Ae z z<|be hr5 fun x12 hr6 hr5=>?_
   obtain ⟨Fs3,hH3,hn3,hF3,hO3,hb3⟩:=AX (As:=[Ag b3 [(I x2),v1],Af v1 (x3:(List Int)),Ag b1 [(I 0),(.slice none 0 0)]]) [Ag pb1 [u1,(I x7.2.2.1),(I x7.2.2.2)]] hC22
   refine AG Bo z z (c_S_l1Below pb1 (a1.1,x7.2.2.1,x7.2.2.2) u1 (Bf g1 hC22.keep hF3) 5 hH3 hn3 x12 hr6) ?_
   rintro _ w12 ⟨rfl,hq5⟩
   have hC24:Ctx Fs.flatten w0 w12 [Ag pb1 [u1,(I x12.2.2.1),(I x12.2.2.2)],Ag b3 [(I x2),v1],Af v1 (x3:(List Int)),Ag b1 [(I 0),(.slice none 0 0)]]:=hb3 _ _ hq5
   refine BR z z z<|fd A4 Ay z z z z<|B9 (cs':=[(I (w64 (x12.1 - 1))),v1]) hC24 1 z z z z Ay z z fun w13 hC25 hKp3=>?_
   try dsimp only [List.set] at hC25
   refine Ab ?_
   obtain rfl:=Aa hr5
   exact Am (l':=[(4,(ptr b1 0)),(5,(ptr b3 0))]) ⟨z,z,Aj⟩<|⟨x12.2.2.1,x12.2.2.2,w64 (x12.1 - 1),v1,x3,z,z,hC25⟩
  replace hr5:=A8 hr5 hc2
  refine Ac<|BM z z z<|Ad z z<|Ab<|be hr5 fun r3 hr7 hr5=>Bi (fun l w=>∃x13:Int,∃x14:Int,∃x15:Int,∃v5:Value,∃x16:(List Int),(x13,x14,x15,x16)=r3∧l=[(4,(ptr b1 0)),(5,(ptr b3 0))]∧Ctx Fs.flatten w0 w [Ag pb1 [u1,(I x13),(I x14)],Ag b3 [(I x15),v5],Af v5 (x16:(List Int)),Ag b1 [(I 0),(.slice none 0 0)]]) ?_ ?_
  ·refine AE z (fun hc3=>?_) (fun hc3=>?_)
   ·replace hr7:=A7 hr7 hc3
    refine be hr7 fun r4 hr8 hr7=>Bi (fun l w=>∃x17:(List Int),∃x18:Int,∃x19:Int,(x17,x18,x19)=r4∧l=[(4,(ptr b1 0)),(5,(ptr b3 0))]∧Ctx Fs.flatten w0 w [Ag pb1 [u1,(I x18),(I x19)],Ag b3 [(I x2),v1],Af v1 (x17:(List Int)),Ag b1 [(I 0),(.slice none 0 0)]]) ?_ ?_
    ·refine W_drawn 7 z hmix fun w16 hB9=>have hC28:=hC22.grow hB9;tf 0 A4 Az z z z z z<|tm 2 z z z<|Cn (i:=1) (j:=3) (by kernel_rfl) z z ?_ ?_
     ·refine Aq hC28 1 z z AM z z<|Ab<|oe 3 z<|AC (vs:=[(I (-1)),(I 9),(I 10)]) hC28 Ak ty3 z z z z (fac z<|fac z<|fac z<|fa0) z z fun b4 w17 hC29 hB10=>?_
      have hC30:=hC29.row0 (α:=Int)
      have hC31:=hC30.triv (Bx (10))
      have hC32:=hC31.row1
      have hC33:=hC32.triv (Bx (9))
      have hC34:=hC33.row1
      have hC35:=hC34.triv (Bx ((-1)))
      have hC36:=hC35.row1
      have hC37:=hC36.front 1 z
      dsimp only [List.eraseIdx,List.cons_append,List.nil_append,List.append_nil] at hC37
      have hC38:Ctx Fs.flatten w0 w17 (Af (.slice (some ⟨b4,0,none⟩) 3 3) ([(-1),9,10]:List Int)::[Ag pb1 [u1,(I x7.2.2.1),(I x7.2.2.2)],Ag b3 [(I x2),v1],Af v1 (x3:(List Int)),Ag b1 [(I 0),(.slice none 0 0)]]):=hC37.rowOwn (by simp [maxLen])
      refine Ab<|be hr8 fun x20 hr9 hr8=>oe 4 z<|have hC39:=hC38.f1;?_
      obtain ⟨Fs4,hH4,hn4,hF4,hO4,hb4⟩:=AX (As:=[Af (.slice (some ⟨b4,0,none⟩) 3 3) ([(-1),9,10]:(List Int)),Ag b3 [(I x2),v1],Af v1 (x3:(List Int)),Ag b1 [(I 0),(.slice none 0 0)]]) [Ag pb1 [u1,(I x7.2.2.1),(I x7.2.2.2)]] hC39
      refine AG BS z z (c_S_l1PickInt pb1 (a1.1,x7.2.2.1,x7.2.2.2) u1 (Bf g1 hC39.keep hF4) ([(-1),9,10]) (.slice (some ⟨b4,0,none⟩) 3 3) (hO4 0 _ _ _ z) hH4 hn4 x20 hr9) ?_
      rintro _ w18 ⟨rfl,hq7⟩
      have hC40:Ctx Fs.flatten w0 w18 [Ag pb1 [u1,(I x20.2.2.1),(I x20.2.2.2)],Af (.slice (some ⟨b4,0,none⟩) 3 3) ([(-1),9,10]:(List Int)),Ag b3 [(I x2),v1],Af v1 (x3:(List Int)),Ag b1 [(I 0),(.slice none 0 0)]]:=hb4 _ _ hq7
      refine Ab<|be hr8 fun x21 hx1 hr8=>tk 5 z z (fl_index_own hC40 3 z Ak ty3 hx1 z z)<|WL_index_own hC40 3 z Ak ty3 hx1 z z z fun b5 hE1=>Ab<|oe 6 z<|?_
      have hC42:=hC40.triv (Bx (x20.1))
      refine WL_store_elem hC42 3 z ty3 hE1 hx1 z z z (fun w19 hC41=>?_)
      try dsimp only [List.set] at hC41
      refine Ab<|dn<|?_
      obtain rfl:=Aa hr8
      have hC43:=hC41.f4
      have hC44:=hC43.f4
      have hC45:=hC44.f4
      have hC46:=hC45.f3
      have hC47:=hC46.h4
      exact Am (l':=[(4,(ptr b1 0)),(5,(ptr b3 0))]) ⟨z,z,Aj⟩<|⟨(List.set x3 (Int.toNat 0) x20.1),x20.2.2.1,x20.2.2.2,z,z,hC47⟩
     refine AC (vs:=[(I (-1)),(I 9),(I 10)]) hC28 Ak ty3 z z z z (fac z<|fac z<|fac z<|fa0) z z (fun b4 w17 hC29 hB10=>?_)
     have hC30:=hC29.row0 (α:=Int)
     have hC31:=hC30.triv (Bx (10))
     have hC32:=hC31.row1
     have hC33:=hC32.triv (Bx (9))
     have hC34:=hC33.row1
     have hC35:=hC34.triv (Bx ((-1)))
     have hC36:=hC35.row1
     have hC37:=hC36.front 1 z
     dsimp only [List.eraseIdx,List.cons_append,List.nil_append,List.append_nil] at hC37
     have hC38:Ctx Fs.flatten w0 w17 (Af (.slice (some ⟨b4,0,none⟩) 3 3) ([(-1),9,10]:List Int)::[Ag pb1 [u1,(I x7.2.2.1),(I x7.2.2.2)],Ag b3 [(I x2),v1],Af v1 (x3:(List Int)),Ag b1 [(I 0),(.slice none 0 0)]]):=hC37.rowOwn (by simp [maxLen])
     refine Ab<|Cn (i:=1) (j:=4) (by kernel_rfl) z z ?_ ?_
     ·refine Aq hC38 2 z z AM z z<|Ab<|be hr8 fun x20 hr9 hr8=>oe 4 z<|have hC39:=hC38.f1;?_
      obtain ⟨Fs4,hH4,hn4,hF4,hO4,hb4⟩:=AX (As:=[Af (.slice (some ⟨b4,0,none⟩) 3 3) ([(-1),9,10]:(List Int)),Ag b3 [(I x2),v1],Af v1 (x3:(List Int)),Ag b1 [(I 0),(.slice none 0 0)]]) [Ag pb1 [u1,(I x7.2.2.1),(I x7.2.2.2)]] hC39
      refine AG BS z z (c_S_l1PickInt pb1 (a1.1,x7.2.2.1,x7.2.2.2) u1 (Bf g1 hC39.keep hF4) ([(-1),9,10]) (.slice (some ⟨b4,0,none⟩) 3 3) (hO4 0 _ _ _ z) hH4 hn4 x20 hr9) ?_
      rintro _ w18 ⟨rfl,hq7⟩
      have hC40:Ctx Fs.flatten w0 w18 [Ag pb1 [u1,(I x20.2.2.1),(I x20.2.2.2)],Af (.slice (some ⟨b4,0,none⟩) 3 3) ([(-1),9,10]:(List Int)),Ag b3 [(I x2),v1],Af v1 (x3:(List Int)),Ag b1 [(I 0),(.slice none 0 0)]]:=hb4 _ _ hq7
      refine Ab<|be hr8 fun x21 hx1 hr8=>tk 5 z z (fl_index_own hC40 3 z Ak ty3 hx1 z z)<|WL_index_own hC40 3 z Ak ty3 hx1 z z z fun b5 hE1=>Ab<|oe 6 z<|?_
      have hC42:=hC40.triv (Bx (x20.1))
      refine WL_store_elem hC42 3 z ty3 hE1 hx1 z z z (fun w19 hC41=>?_)
      try dsimp only [List.set] at hC41
      refine Ab<|dn<|?_
      obtain rfl:=Aa hr8
      have hC43:=hC41.f4
      have hC44:=hC43.f4
      have hC45:=hC44.f4
      have hC46:=hC45.f3
      have hC47:=hC46.h4
      exact Am (l':=[(4,(ptr b1 0)),(5,(ptr b3 0))]) ⟨z,z,Aj⟩<|⟨(List.set x3 (Int.toNat 0) x20.1),x20.2.2.1,x20.2.2.2,z,z,hC47⟩
     refine be hr8 fun x20 hr9 hr8=>have hC39:=hC38.f1;?_
     obtain ⟨Fs4,hH4,hn4,hF4,hO4,hb4⟩:=AX (As:=[Af (.slice (some ⟨b4,0,none⟩) 3 3) ([(-1),9,10]:(List Int)),Ag b3 [(I x2),v1],Af v1 (x3:(List Int)),Ag b1 [(I 0),(.slice none 0 0)]]) [Ag pb1 [u1,(I x7.2.2.1),(I x7.2.2.2)]] hC39
     refine AG BS z z (c_S_l1PickInt pb1 (a1.1,x7.2.2.1,x7.2.2.2) u1 (Bf g1 hC39.keep hF4) ([(-1),9,10]) (.slice (some ⟨b4,0,none⟩) 3 3) (hO4 0 _ _ _ z) hH4 hn4 x20 hr9) ?_
     rintro _ w18 ⟨rfl,hq7⟩
     have hC40:Ctx Fs.flatten w0 w18 [Ag pb1 [u1,(I x20.2.2.1),(I x20.2.2.2)],Af (.slice (some ⟨b4,0,none⟩) 3 3) ([(-1),9,10]:(List Int)),Ag b3 [(I x2),v1],Af v1 (x3:(List Int)),Ag b1 [(I 0),(.slice none 0 0)]]:=hb4 _ _ hq7
     refine Ab<|oe 1 z<|Aq hC40 2 z z AM z z<|Ab<|be hr8 fun x21 hx1 hr8=>tk 5 z z (fl_index_own hC40 3 z Ak ty3 hx1 z z)<|WL_index_own hC40 3 z Ak ty3 hx1 z z z fun b5 hE1=>Ab<|oe 6 z<|?_
     have hC42:=hC40.triv (Bx (x20.1))
     refine WL_store_elem hC42 3 z ty3 hE1 hx1 z z z (fun w19 hC41=>?_)
     try dsimp only [List.set] at hC41
     refine Ab<|dn<|?_
     obtain rfl:=Aa hr8
     have hC43:=hC41.f4
     have hC44:=hC43.f4
     have hC45:=hC44.f4
     have hC46:=hC45.f3
     have hC47:=hC46.h4
     exact Am (l':=[(4,(ptr b1 0)),(5,(ptr b3 0))]) ⟨z,z,Aj⟩<|⟨(List.set x3 (Int.toNat 0) x20.1),x20.2.2.1,x20.2.2.2,z,z,hC47⟩
    rintro l4 _ w15 hs4 ⟨x17,x18,x19,rfl,rfl,hC27⟩
    try dsimp only at hr7
    obtain rfl:=Aa hr7
    exact Cm (l2:=[(4,(ptr b1 0)),(5,(ptr b3 0))]) hs4 ⟨z,z,Aj⟩<|⟨x18,x19,x2,v1,x17,z,z,hC27⟩
   replace hr7:=A8 hr7 hc3
   refine Ac<|BM z z z<|Ad z z<|Ab<|be hr7 fun r5 hr10 hr7=>Bi (fun l w=>∃x22:Int,∃v6:Value,∃x23:(List Int),(x22,x23)=r5∧l=[(4,(ptr b1 0)),(5,(ptr b3 0))]∧Ctx Fs.flatten w0 w [Ag pb1 [u1,(I x7.2.2.1),(I x7.2.2.2)],Ag b3 [(I x22),v6],Af v6 (x23:(List Int)),Ag b1 [(I 0),(.slice none 0 0)]]) ?_ ?_
   ·refine AE z (fun hc4=>?_) (fun hc4=>?_)
    ·replace hr10:=A7 hr10 hc4
     refine Bg<|fd A4 Az z z z z<|Aq hC22 1 z z AM z z<|AC (vs:=[(I 1)]) hC22 Ak ty3 z z z z (fac z<|fa0) z z fun b6 w21 hC49 hB12=>?_
     have hC50:=hC49.row0 (α:=Int)
     have hC51:=hC50.triv (Bx (1))
     have hC52:=hC51.row1
     have hC53:=hC52.front 1 z
     dsimp only [List.eraseIdx,List.cons_append,List.nil_append,List.append_nil] at hC53
     have hC54:Ctx Fs.flatten w0 w21 (Af (.slice (some ⟨b6,0,none⟩) 1 1) ([1]:List Int)::[Ag pb1 [u1,(I x7.2.2.1),(I x7.2.2.2)],Ag b3 [(I x2),v1],Af v1 (x3:(List Int)),Ag b1 [(I 0),(.slice none 0 0)]]):=hC53.rowOwn (by simp [maxLen])
     refine be hr10 fun x24 hx2 hr10=>BF (α:=Int) hC54 3 z (hC54.ro 0 z) (A1 _ _) Ak ty3 z hx2 z z z fun v7 w22 hC55=>?_
     try dsimp only [List.set] at hC55
     refine fd A4 Az z z z z<|B9 (cs':=[(I x2),v7]) hC55 2 z z (B0 (hC55.ro 3 z)) z Az z z fun w23 hC56 hKp5=>?_
     try dsimp only [List.set] at hC56
     refine Ab ?_
     obtain rfl:=Aa hr10
     have hC57:=hC56.f4
     have hC58:=hC57.f4
     have hC59:=hC58.f4
     have hC60:=hC59.f4
     have hC61:=hC60.h4
     exact Am (l':=[(4,(ptr b1 0)),(5,(ptr b3 0))]) ⟨z,z,Aj⟩<|⟨x2,v7,x24,z,z,hC61⟩
    replace hr10:=A8 hr10 hc4
    refine AF ?_
    obtain rfl:=Aa hr10
    exact Am (l':=[(4,(ptr b1 0)),(5,(ptr b3 0))]) ⟨z,z,Aj⟩<|⟨x2,v1,x3,z,z,hC22⟩
   rintro l5 _ w20 hs5 ⟨x22,v6,x23,rfl,rfl,hC48⟩
   try dsimp only at hr7
   obtain rfl:=Aa hr7
   exact Cm (l2:=[(4,(ptr b1 0)),(5,(ptr b3 0))]) hs5 ⟨z,z,Aj⟩<|⟨x7.2.2.1,x7.2.2.2,x22,v6,x23,z,z,hC48⟩
  rintro l3 _ w14 hs3 ⟨x13,x14,x15,v5,x16,rfl,rfl,hC26⟩
  try dsimp only at hr5
  obtain rfl:=Aa hr5
  exact Cm (l2:=[(4,(ptr b1 0)),(5,(ptr b3 0))]) hs3 ⟨z,z,Aj⟩<|⟨x13,x14,x15,v5,x16,z,z,hC26⟩
 rintro l2 _ w11 hs2 ⟨x8,x9,x10,v4,x11,rfl,rfl,hC23⟩
 try dsimp only at hF
 refine AU<|AY hs2<|?_
 clear hs2
 refine Ac<|Au [(I x10),v4] hC23 1 z z z Bl AP z z<|AA (cs':=[(I x10),v4]) (new:=[(I x10),v4]) hC23 3 z z (fac z<|fac (B0 (hC23.ro 2 z))<|fa0) z AP z z fun w24 hC62 hKp6=>?_
 try dsimp only [List.set] at hC62
 refine Ab (AL ?_)
 obtain rfl:=Aa hF
 refine Cq z (rv_cell_agg (cs':=[(I x10),v4]) hC62 (i:=3) z z z Bl AP z)<|have hC64:=hC62.f2;?_
 have hC63:=Cc x10 v4 x11 hC64
 have hC65:=hC63.h2
 exact ⟨_,z,_,z,hC65⟩
theorem c_S_l2AnyFacts {w0:World} {Fs:List (List Nat)} (pb1:Nat) (a1:((List UInt8) × Int × Int)) (u1:Value) (g1:RO Fs.flatten w0 u1 a1.1) (a2:(List Int)) (u2:Value) (g2:RO Fs.flatten w0 u2 a2) (hH:Hold [Ag pb1 [u1,(I a1.2.1),(I a1.2.2)]] w0 Fs) (hn:Fs.flatten.Nodup) (rr:((List (Int × (List Int))) × ((List UInt8) × Int × Int))) (hF:S.l2AnyFacts a1 a2=some rr) :
 Calls Tryz.prog 124 [(ptr pb1 0),u2].toArray w0 fun e w'=>∃v,e=.returned v∧∃q0:Value,v=q0∧Ctx Fs.flatten w0 w' [Af q0 (rr.1:(List (Int × (List Int)))),Ag pb1 [u1,(I rr.2.2.1),(I rr.2.2.2)]]:=by
 refine Ax Tryz.func124 z z ?_
 have hC0:=BE hH hn
 unfold S.l2AnyFacts at hF
 refine Ac<|Ad z z<|Ab<|Ac<|AC (vs:=[]) hC0 Ai ty88 z z z z (by simp) z z fun b1 w1 hC1 hB1=>?_
 have hC2:=hC1.row0 (α:=(Int × (List Int)))
 have hC3:=hC2.front 1 z
 dsimp only [List.eraseIdx,List.cons_append,List.nil_append,List.append_nil] at hC3
 have hC4:Ctx Fs.flatten w0 w1 (Af (.slice (some ⟨b1,0,none⟩) 0 0) (([]:List (Int × (List Int))):List (Int × (List Int)))::[Ag pb1 [u1,(I a1.2.1),(I a1.2.2)]]):=hC3.rowOwn (by simp [maxLen])
 refine Ad z z<|Ab<|A6<|Ac<|Ae z z<|be hF fun x1 hr1 hF=>cb BX z z (c_S_IsSchema a2 u2 (g2.now hC4.keep) x1 hr1) fun w2 hB2=>have hC5:=hC4.grow hB2;Ab<|be hF fun r1 hr2 hF=>Bi (fun l w=>∃x2:Int,∃x3:Int,∃v1:Value,∃x4:(List (Int × (List Int))),(x2,x3,x4)=r1∧l=[(0,(ptr pb1 0)),(1,u2),(5,v1)]∧Ctx Fs.flatten w0 w [Af v1 (x4:(List (Int × (List Int)))),Ag pb1 [u1,(I x2),(I x3)]]) ?_ ?_
 ·refine AE z (fun hc1=>?_) (fun hc1=>?_)
  ·replace hr2:=A7 hr2 hc1
   refine Bg<|Ae z z<|Ae z z<|be hr2 fun x5 hr3 hr2=>have hC7:=hC5.f1;?_
   obtain ⟨Fs1,hH1,hn1,hF1,hO1,hb1⟩:=AX (As:=[Af (.slice (some ⟨b1,0,none⟩) 0 0) (([]:List (Int × (List Int))):(List (Int × (List Int))))]) [Ag pb1 [u1,(I a1.2.1),(I a1.2.2)]] hC7
   refine AG Tryz.call168 z z (c_S_l2Facts pb1 (a1.1,a1.2.1,a1.2.2) u1 (Bf g1 hC7.keep hF1) a2 u2 (Bf g2 hC7.keep hF1) 8 hH1 hn1 x5 hr3) ?_
   rintro v2 w4 ⟨_,rfl,hq1⟩
   have hC8:Ctx Fs.flatten w0 w4 [Af v2 (x5.1:(List (Int × (List Int)))),Ag pb1 [u1,(I x5.2.2.1),(I x5.2.2.2)],Af (.slice (some ⟨b1,0,none⟩) 0 0) (([]:List (Int × (List Int))):(List (Int × (List Int))))]:=hb1 _ _ hq1
   refine Ad z z<|Ab<|?_
   obtain rfl:=Aa hr2
   have hC9:=hC8.f1
   have hC10:=hC9.f1
   have hC11:=hC10.h2
   exact Am (l':=[(0,(ptr pb1 0)),(1,u2),(5,v2)]) ⟨z,z,z,Aj⟩<|⟨x5.2.2.1,x5.2.2.2,v2,x5.1,z,z,hC11⟩
  replace hr2:=A8 hr2 hc1
  refine AF ?_
  obtain rfl:=Aa hr2
  exact Am (l':=[(0,(ptr pb1 0)),(1,u2),(5,(.slice (some ⟨b1,0,none⟩) 0 0))]) ⟨z,z,z,Aj⟩<|⟨a1.2.1,a1.2.2,(.slice (some ⟨b1,0,none⟩) 0 0),([]:List (Int × (List Int))),z,z,hC5⟩
 rintro l1 _ w3 hs1 ⟨x2,x3,v1,x4,rfl,rfl,hC6⟩
 try dsimp only at hF
 refine AY hs1 ?_
 clear hs1
 refine A6<|Ac<|Ae z z<|be hF fun x6 hr4 hF=>have hC12:=hC6.f1;?_
 obtain ⟨Fs2,hH2,hn2,hF2,hO2,hb2⟩:=AX (As:=[Af v1 (x4:(List (Int × (List Int))))]) [Ag pb1 [u1,(I x2),(I x3)]] hC12
 refine AG Co z z (c_S_l1Once pb1 (a1.1,x2,x3) u1 (Bf g1 hC12.keep hF2) 10 hH2 hn2 x6 hr4) ?_
 rintro _ w5 ⟨rfl,hq4⟩
 have hC13:Ctx Fs.flatten w0 w5 [Ag pb1 [u1,(I x6.2.2.1),(I x6.2.2.2)],Af v1 (x4:(List (Int × (List Int))))]:=hb2 _ _ hq4
 refine Ab<|be hF fun r2 hr5 hF=>Bi (fun l w=>∃x7:Int,∃x8:Int,∃v3:Value,∃x9:(List (Int × (List Int))),(x7,x8,x9)=r2∧l=[(5,v3)]∧Ctx Fs.flatten w0 w [Ag pb1 [u1,(I x7),(I x8)],Af v3 (x9:(List (Int × (List Int))))]) ?_ ?_
 ·refine AE z (fun hc2=>?_) (fun hc2=>?_)
  ·replace hr5:=A7 hr5 hc2
   refine Bg<|Ae z z<|Ae z z<|Ae z z<|be hr5 fun x10 hr6 hr5=>?_
   obtain ⟨Fs3,hH3,hn3,hF3,hO3,hb3⟩:=AX (As:=[Af v1 (x4:(List (Int × (List Int))))]) [Ag pb1 [u1,(I x6.2.2.1),(I x6.2.2.2)]] hC13
   refine AG Tryz.call174 z z (c_S_l2AnyFact pb1 (a1.1,x6.2.2.1,x6.2.2.2) u1 (Bf g1 hC13.keep hF3) a2 u2 (Bf g2 hC13.keep hF3) hH3 hn3 x10 hr6) ?_
   rintro v4 w7 ⟨_,rfl,hq5⟩
   have hC15:Ctx Fs.flatten w0 w7 [Af v4 (x10.1:(Int × (List Int))),Ag pb1 [u1,(I x10.2.2.1),(I x10.2.2.2)],Af v1 (x4:(List (Int × (List Int))))]:=hb3 _ _ hq5
   obtain ⟨v5,rfl,hC16⟩:=st88_own hC15
   refine AC (vs:=[(.agg #[(I x10.1.1),v5])]) hC16 Ai ty88 z z z z (fac z<|fa0) z z (fun b2 w9 hC17 hB5=>?_)
   have hC18:=hC17.row0 (α:=(Int × (List Int)))
   have hC20:=hC18.f2
   have hC19:=Cc x10.1.1 v5 x10.1.2 hC20
   have hC21:=hC19.row1
   have hC22:=hC21.front 1 z
   dsimp only [List.eraseIdx,List.cons_append,List.nil_append,List.append_nil] at hC22
   have hC23:Ctx Fs.flatten w0 w9 (Af (.slice (some ⟨b2,0,none⟩) 1 1) ([(x10.1.1,x10.1.2)]:List (Int × (List Int)))::[Ag pb1 [u1,(I x10.2.2.1),(I x10.2.2.2)],Af v1 (x4:(List (Int × (List Int))))]):=hC22.rowOwn (by simp [maxLen])
   refine be hr5 fun x11 hx1 hr5=>By hC23 1 z Ai ty88 z hx1 z z z fun v6 w10 hC24=>?_
   try dsimp only [List.set] at hC24
   refine Ad z z<|Ab<|?_
   obtain rfl:=Aa hr5
   exact Am (l':=[(5,v6)]) ⟨z,Aj⟩<|⟨x10.2.2.1,x10.2.2.2,v6,x11,z,z,hC24⟩
  replace hr5:=A8 hr5 hc2
  refine AF ?_
  obtain rfl:=Aa hr5
  exact Am (l':=[(5,v1)]) ⟨z,Aj⟩<|⟨x6.2.2.1,x6.2.2.2,v1,x4,z,z,hC13⟩
 rintro l2 _ w6 hs2 ⟨x7,x8,v3,x9,rfl,rfl,hC14⟩
 try dsimp only at hF
 refine AY hs2 ?_
 clear hs2
 refine Ac<|Ae z z<|Ad z z<|Ab<|AL<|?_
 obtain rfl:=Aa hF
 exact A2 z z<|have hC26:=hC14.f1;⟨_,z,_,z,hC26⟩
theorem c_S_l2Schema {w0:World} {Fs:List (List Nat)} (pb1:Nat) (a1:((List UInt8) × Int × Int)) (u1:Value) (g1:RO Fs.flatten w0 u1 a1.1) (hH:Hold [Ag pb1 [u1,(I a1.2.1),(I a1.2.2)]] w0 Fs) (hn:Fs.flatten.Nodup) (rr:((List Int) × ((List UInt8) × Int × Int))) (hF:S.l2Schema a1=some rr) :
 Calls Tryz.prog 166 [(ptr pb1 0)].toArray w0 fun e w'=>∃v,e=.returned v∧∃q0:Value,v=q0∧Ctx Fs.flatten w0 w' [Af q0 (rr.1:(List Int)),Ag pb1 [u1,(I rr.2.2.1),(I rr.2.2.2)]]:=by
 refine Ax Tryz.func166 z z ?_
 have hC0:=BE hH hn
 unfold S.l2Schema at hF
 refine Ac<|Ad z z<|Ab<|Ac<|AC (vs:=[]) hC0 Ak ty3 z z z z (by simp) z z fun b1 w1 hC1 hB1=>?_
 have hC2:=hC1.row0 (α:=Int)
 have hC3:=hC2.front 1 z
 dsimp only [List.eraseIdx,List.cons_append,List.nil_append,List.append_nil] at hC3
 have hC4:Ctx Fs.flatten w0 w1 (Af (.slice (some ⟨b1,0,none⟩) 0 0) (([]:List Int):List Int)::[Ag pb1 [u1,(I a1.2.1),(I a1.2.2)]]):=hC3.rowOwn (by simp [maxLen])
 refine Ad z z<|Ab<|A6<|Ac<|Ae z z<|be hF fun x1 hr1 hF=>have hC5:=hC4.f1;?_
 obtain ⟨Fs1,hH1,hn1,hF1,hO1,hb1⟩:=AX (As:=[Af (.slice (some ⟨b1,0,none⟩) 0 0) (([]:List Int):(List Int))]) [Ag pb1 [u1,(I a1.2.1),(I a1.2.2)]] hC5
 refine AG Bo z z (c_S_l1Below pb1 (a1.1,a1.2.1,a1.2.2) u1 (Bf g1 hC5.keep hF1) 3 hH1 hn1 x1 hr1) ?_
 rintro _ w2 ⟨rfl,hq1⟩
 have hC6:Ctx Fs.flatten w0 w2 [Ag pb1 [u1,(I x1.2.2.1),(I x1.2.2.2)],Af (.slice (some ⟨b1,0,none⟩) 0 0) (([]:List Int):(List Int))]:=hb1 _ _ hq1
 refine Bn z z z<|Ad z z<|Ab<|be hF fun r1 hr2 hF=>Bi (fun l w=>∃x6:Int,∃x7:Int,∃v2:Value,∃x8:(List Int),(x6,x7,x8)=r1∧l=[(3,v2)]∧Ctx Fs.flatten w0 w [Ag pb1 [u1,(I x6),(I x7)],Af v2 (x8:(List Int))]) ?_ ?_
 ·refine AJ<|wS (l':=[(0,(ptr pb1 0)),(3,(.slice (some ⟨b1,0,none⟩) 0 0)),(4,(I (w64 (1+x1.1))))]) ⟨z,z,z,Aj⟩<|B2 (fun k l w=>∃x2:Int,∃x3:Int,∃v1:Value,∃x4:(List Int),∃x5:Int,l=[(0,(ptr pb1 0)),(3,v1),(4,(I x5))]∧Ctx Fs.flatten w0 w [Ag pb1 [u1,(I x2),(I x3)],Af v1 (x4:(List Int))]∧S.l2Schema_l1 a1 k x2 x3 x4 x5=some r1) FUEL ⟨x1.2.2.1,x1.2.2.2,(.slice (some ⟨b1,0,none⟩) 0 0),([]:List Int),w64 (1+x1.1),z,hC6,hr2⟩<|?_
  clear hr2
  rintro k1 _ w3 ⟨x2,x3,v1,x4,x5,rfl,hC7,hL1⟩
  cases k1 with
  | zero=>rw [S.l2Schema_l1] at hL1; cases hL1
  | succ k1 =>
   rw [S.l2Schema_l1] at hL1
   refine A6<|Ac<|Ae z z<|Ca z z z<|Ab<|AE z (fun hc1=>?_) (fun hc1=>?_)
   ·replace hL1:=A7 hL1 hc1
    refine AF<|Ap<|A6<|AJ<|Ac<|Ae z z<|be hL1 fun x9 hr3 hL1=>?_
    obtain ⟨Fs2,hH2,hn2,hF2,hO2,hb2⟩:=AX (As:=[Af v1 (x4:(List Int))]) [Ag pb1 [u1,(I x2),(I x3)]] hC7
    refine AG Bo z z (c_S_l1Below pb1 (a1.1,x2,x3) u1 (Bf g1 hC7.keep hF2) 2 hH2 hn2 x9 hr3) ?_
    rintro _ w4 ⟨rfl,hq2⟩
    have hC8:Ctx Fs.flatten w0 w4 [Ag pb1 [u1,(I x9.2.2.1),(I x9.2.2.2)],Af v1 (x4:(List Int))]:=hb2 _ _ hq2
    refine Bn z z z<|Ad z z<|Ab<|A6<|Ac<|Ae z z<|be hL1 fun x10 hr4 hL1=>?_
    obtain ⟨Fs3,hH3,hn3,hF3,hO3,hb3⟩:=AX (As:=[Af v1 (x4:(List Int))]) [Ag pb1 [u1,(I x9.2.2.1),(I x9.2.2.2)]] hC8
    refine AG Co z z (c_S_l1Once pb1 (a1.1,x9.2.2.1,x9.2.2.2) u1 (Bf g1 hC8.keep hF3) 4 hH3 hn3 x10 hr4) ?_
    rintro _ w5 ⟨rfl,hq3⟩
    have hC9:Ctx Fs.flatten w0 w5 [Ag pb1 [u1,(I x10.2.2.1),(I x10.2.2.2)],Af v1 (x4:(List Int))]:=hb3 _ _ hq3
    refine Ab<|be hL1 fun r2 hr5 hL1=>Bi (fun l w=>∃x11:Int,x11=r2∧l=[(0,(ptr pb1 0)),(3,v1),(4,(I x5)),(5,(I x11))]∧Below w5.heap.size w5 w∧Ctx Fs.flatten w0 w [Ag pb1 [u1,(I x10.2.2.1),(I x10.2.2.2)],Af v1 (x4:(List Int))]) ?_ ?_
    ·refine AE z (fun hc2=>?_) (fun hc2=>?_)
     ·replace hr5:=A7 hr5 hc2
      refine Bg<|Ad z z<|Ab<|?_
      obtain rfl:=Aa hr5
      exact Am (l':=[(0,(ptr pb1 0)),(3,v1),(4,(I x5)),(5,(I 3))]) ⟨z,z,z,z,Aj⟩<|⟨3,z,z,(Al _ _),hC9⟩
     replace hr5:=A8 hr5 hc2
     refine AF ?_
     obtain rfl:=Aa hr5
     exact Am (l':=[(0,(ptr pb1 0)),(3,v1),(4,(I x5)),(5,(I (w64 (1+x9.1))))]) ⟨z,z,z,z,Aj⟩<|⟨w64 (1+x9.1),z,z,(Al _ _),hC9⟩
    rintro l2 _ w6 hs2 ⟨x11,rfl,rfl,hB3,hC10⟩
    try dsimp only at hL1
    refine AY hs2 ?_
    clear hs2
    refine Bg<|Ae z z<|Ae z z<|AC (vs:=[(I x11)]) hC10 Ak ty3 z z z z (fac z<|fa0) z z fun b2 w7 hC11 hB4=>?_
    have hC12:=hC11.row0 (α:=Int)
    have hC13:=hC12.triv (Bx (x11))
    have hC14:=hC13.row1
    have hC15:=hC14.front 1 z
    dsimp only [List.eraseIdx,List.cons_append,List.nil_append,List.append_nil] at hC15
    have hC16:Ctx Fs.flatten w0 w7 (Af (.slice (some ⟨b2,0,none⟩) 1 1) ([x11]:List Int)::[Ag pb1 [u1,(I x10.2.2.1),(I x10.2.2.2)],Af v1 (x4:(List Int))]):=hC15.rowOwn (by simp [maxLen])
    refine be hL1 fun x12 hx1 hL1=>BF (α:=Int) hC16 2 z (hC16.ro 0 z) (A1 _ _) Ak ty3 z hx1 z z z fun v3 w9 hC17=>?_
    try dsimp only [List.set] at hC17
    exact Ad z z<|Ab<|AU<|Ap<|Bg<|Ae z z<|BR z z z<|Ad z z<|Ab<|have hC18:=hC17.f2;have hC19:=hC18.f2;have hC20:=hC19.h2;Am (l':=[(0,(ptr pb1 0)),(3,v3),(4,(I (w64 (x5 - 1))))]) ⟨z,z,z,Aj⟩<|⟨k1,A3 _,x10.2.2.1,x10.2.2.2,v3,x12,w64 (x5 - 1),z,hC20,hL1⟩
   replace hL1:=A8 hL1 hc1
   refine B1 (A9 (A9 (Bk ?_)))
   obtain rfl:=Aa hL1
   exact Am (l':=[(3,v1)]) ⟨z,Aj⟩<|⟨x2,x3,v1,x4,z,z,hC7⟩
 rintro l3 _ w10 hs3 ⟨x6,x7,v2,x8,rfl,rfl,hC21⟩
 try dsimp only at hF
 refine AY hs3 ?_
 clear hs3
 refine Ac<|Ae z z<|Ad z z<|Ab<|AL<|?_
 obtain rfl:=Aa hF
 exact A2 z z<|have hC22:=hC21.f1;⟨_,z,_,z,hC22⟩
theorem c_S_l5Method {w0:World} {Fs:List (List Nat)} (pb1:Nat) (a1:((List UInt8) × Int × Int)) (u1:Value) (g1:RO Fs.flatten w0 u1 a1.1) (a2:(List Int)) (u2:Value) (g2:RO Fs.flatten w0 u2 a2) (hH:Hold [Ag pb1 [u1,(I a1.2.1),(I a1.2.2)]] w0 Fs) (hn:Fs.flatten.Nodup) (rr:((Int × (List Int) × Int × Int × Int) × ((List UInt8) × Int × Int))) (hF:S.l5Method a1 a2=some rr) :
 Calls Tryz.prog 201 [(ptr pb1 0),u2].toArray w0 fun e w'=>∃v,e=.returned v∧∃q0:Value,v=q0∧Ctx Fs.flatten w0 w' [Af q0 (rr.1:(Int × (List Int) × Int × Int × Int)),Ag pb1 [u1,(I rr.2.2.1),(I rr.2.2.2)]]:=by
 refine Ax Tryz.func201 z z ?_
 have hC0:=BE hH hn
 unfold S.l5Method at hF
 refine Ac<|Bw hC0 zero93 z z fun b1 w1 hC1 hB1 hN1=>Ab<|Ac<|Ae z z<|Ae z z<|Bc Ak g2 z z<|be hF fun x1 hr1 hF=>have hC2:=hC1.f1;?_
 obtain ⟨Fs1,hH1,hn1,hF1,hO1,hb1⟩:=AX (As:=[Ag b1 [(I 0),(.slice none 0 0),(I 0),(I 0),(I 0)]]) [Ag pb1 [u1,(I a1.2.1),(I a1.2.2)]] hC2
 refine AG Bo z z (c_S_l1Below pb1 (a1.1,a1.2.1,a1.2.2) u1 (Bf g1 hC2.keep hF1) (List.length a2:Int) hH1 hn1 x1 hr1) ?_
 rintro _ w2 ⟨rfl,hq1⟩
 have hC3:Ctx Fs.flatten w0 w2 [Ag pb1 [u1,(I x1.2.2.1),(I x1.2.2.2)],Ag b1 [(I 0),(.slice none 0 0),(I 0),(I 0),(I 0)]]:=hb1 _ _ hq1
 refine Ae z z<|AC (vs:=[(I 0),(I 0),(I 0),(I 1),(I 2)]) hC3 Ak ty3 z z z z (fac z<|fac z<|fac z<|fac z<|fac z<|fa0) z z fun b2 w3 hC4 hB2=>?_
 have hC5:=hC4.row0 (α:=Int)
 have hC6:=hC5.triv (Bx (2))
 have hC7:=hC6.row1
 have hC8:=hC7.triv (Bx (1))
 have hC9:=hC8.row1
 have hC10:=hC9.triv (Bx (0))
 have hC11:=hC10.row1
 have hC12:=hC11.triv (Bx (0))
 have hC13:=hC12.row1
 have hC14:=hC13.triv (Bx (0))
 have hC15:=hC14.row1
 have hC16:=hC15.front 1 z
 dsimp only [List.eraseIdx,List.cons_append,List.nil_append,List.append_nil] at hC16
 have hC17:Ctx Fs.flatten w0 w3 (Af (.slice (some ⟨b2,0,none⟩) 5 5) ([0,0,0,1,2]:List Int)::[Ag pb1 [u1,(I x1.2.2.1),(I x1.2.2.2)],Ag b1 [(I 0),(.slice none 0 0),(I 0),(I 0),(I 0)]]):=hC16.rowOwn (by simp [maxLen])
 refine be hF fun x2 hr2 hF=>have hC18:=hC17.f1;?_
 obtain ⟨Fs2,hH2,hn2,hF2,hO2,hb2⟩:=AX (As:=[Af (.slice (some ⟨b2,0,none⟩) 5 5) ([0,0,0,1,2]:(List Int)),Ag b1 [(I 0),(.slice none 0 0),(I 0),(I 0),(I 0)]]) [Ag pb1 [u1,(I x1.2.2.1),(I x1.2.2.2)]] hC18
 refine AG BS z z (c_S_l1PickInt pb1 (a1.1,x1.2.2.1,x1.2.2.2) u1 (Bf g1 hC18.keep hF2) ([0,0,0,1,2]) (.slice (some ⟨b2,0,none⟩) 5 5) (hO2 0 _ _ _ z) hH2 hn2 x2 hr2) ?_
 rintro _ w4 ⟨rfl,hq2⟩
 have hC19:Ctx Fs.flatten w0 w4 [Ag pb1 [u1,(I x2.2.2.1),(I x2.2.2.2)],Af (.slice (some ⟨b2,0,none⟩) 5 5) ([0,0,0,1,2]:(List Int)),Ag b1 [(I 0),(.slice none 0 0),(I 0),(I 0),(I 0)]]:=hb2 _ _ hq2
 refine Ae z z<|be hF fun x3 hr3 hF=>?_
 obtain ⟨Fs3,hH3,hn3,hF3,hO3,hb3⟩:=AX (As:=[Af (.slice (some ⟨b2,0,none⟩) 5 5) ([0,0,0,1,2]:(List Int)),Ag b1 [(I 0),(.slice none 0 0),(I 0),(I 0),(I 0)]]) [Ag pb1 [u1,(I x2.2.2.1),(I x2.2.2.2)]] hC19
 refine AG Bo z z (c_S_l1Below pb1 (a1.1,x2.2.2.1,x2.2.2.2) u1 (Bf g1 hC19.keep hF3) 5 hH3 hn3 x3 hr3) ?_
 rintro _ w5 ⟨rfl,hq3⟩
 have hC20:Ctx Fs.flatten w0 w5 [Ag pb1 [u1,(I x3.2.2.1),(I x3.2.2.2)],Af (.slice (some ⟨b2,0,none⟩) 5 5) ([0,0,0,1,2]:(List Int)),Ag b1 [(I 0),(.slice none 0 0),(I 0),(I 0),(I 0)]]:=hb3 _ _ hq3
 refine Ae z z<|be hF fun x4 hr4 hF=>?_
 obtain ⟨Fs4,hH4,hn4,hF4,hO4,hb4⟩:=AX (As:=[Af (.slice (some ⟨b2,0,none⟩) 5 5) ([0,0,0,1,2]:(List Int)),Ag b1 [(I 0),(.slice none 0 0),(I 0),(I 0),(I 0)]]) [Ag pb1 [u1,(I x3.2.2.1),(I x3.2.2.2)]] hC20
 refine AG Bo z z (c_S_l1Below pb1 (a1.1,x3.2.2.1,x3.2.2.2) u1 (Bf g1 hC20.keep hF4) 6 hH4 hn4 x4 hr4) ?_
 rintro _ w6 ⟨rfl,hq4⟩
 have hC21:Ctx Fs.flatten w0 w6 [Ag pb1 [u1,(I x4.2.2.1),(I x4.2.2.2)],Af (.slice (some ⟨b2,0,none⟩) 5 5) ([0,0,0,1,2]:(List Int)),Ag b1 [(I 0),(.slice none 0 0),(I 0),(I 0),(I 0)]]:=hb4 _ _ hq4
 refine Bn z z z<|BH (vs:=[(0,(I x1.1)),(2,(I x2.1)),(3,(I x3.1)),(4,(I (w64 (1+x4.1))))]) z z z (built93_0_2_3_4 z z z z)<|Bw hC21 zero93 z z fun b3 w7 hC22 hB3 hN2=>AA (cs':=[(I x1.1),(.slice none 0 0),(I x2.1),(I x3.1),(I (w64 (1+x4.1)))]) (new:=[(I x1.1),(.slice none 0 0),(I x2.1),(I x3.1),(I (w64 (1+x4.1)))]) hC22 0 z z (fac z<|fac z<|fac z<|fac z<|fac z<|fa0) z B6 z z fun w9 hC23 hKp1=>?_
 try dsimp only [List.set] at hC23
 have hk1:=AO (Ao hB3) hN2 hKp1
 refine Ab<|A6<|Ac<|Ad z z<|Ab<|be hF fun r1 hr5 hF=>Bi (fun l w=>∃x13:Int,∃v2:Value,∃x14:(List Int),∃x15:Int,∃x16:Int,∃x17:Int,∃x18:Int,∃x19:Int,(x13,x14,x15,x16,x17,x18,x19)=r1∧l=[(4,(ptr b1 0)),(5,(ptr b3 0))]∧Ctx Fs.flatten w0 w [Af v2 (x14:(List Int)),Ag b3 [(I x13),v2,(I x15),(I x16),(I x17)],Ag pb1 [u1,(I x18),(I x19)],Ag b1 [(I 0),(.slice none 0 0),(I 0),(I 0),(I 0)]]) ?_ ?_
 ·refine AJ ?_
  have hC45:=hC23.triv (nil_val (α:=Int))
  have hC46:=hC45.f4
  have hC47:=hC46.f3
  have hC48:=hC47.f3
  have hC49:=hC48.f3
  have hC50:=hC49.h4
  refine wS (l':=[(0,(ptr pb1 0)),(1,u2),(4,(ptr b1 0)),(5,(ptr b3 0)),(6,(I 0))]) ⟨z,z,z,z,z,Aj⟩<|B2 (fun k l w=>∃x5:Int,∃v1:Value,∃x6:(List Int),∃x7:Int,∃x8:Int,∃x9:Int,∃x10:Int,∃x11:Int,∃x12:Int,l=[(0,(ptr pb1 0)),(1,u2),(4,(ptr b1 0)),(5,(ptr b3 0)),(6,(I x12))]∧Ctx Fs.flatten w0 w [Af v1 (x6:(List Int)),Ag b3 [(I x5),v1,(I x7),(I x8),(I x9)],Ag pb1 [u1,(I x10),(I x11)],Ag b1 [(I 0),(.slice none 0 0),(I 0),(I 0),(I 0)]]∧S.l5Method_l1 a2 a1 k x5 x6 x7 x8 x9 x10 x11 x12=some r1) FUEL ⟨x1.1,(.slice none 0 0),[],x2.1,x3.1,w64 (1+x4.1),x4.2.2.1,x4.2.2.2,0,z,hC50,hr5⟩<|?_
  clear hr5
  rintro k1 _ w10 ⟨x5,v1,x6,x7,x8,x9,x10,x11,x12,rfl,hC24,hL1⟩
  cases k1 with
  | zero=>rw [S.l5Method_l1] at hL1; cases hL1
  | succ k1 =>
   rw [S.l5Method_l1] at hL1
   refine A6<|Ac<|Ae z z<|Ae z z<|fd AB Ay z z z z<|Aq hC24 1 z z AR z z<|be hL1 fun x20 hx1 hL1=>AH Ak ty3 g2 hx1 z z z fun b4 o1 h1=>AI ty3 h1 hC24.keep z z fun v3 h2=>?_
   obtain rfl:=B8 h2
   refine Bv z z z<|Ab<|AE z (fun hc1=>?_) (fun hc1=>?_)
   ·replace hL1:=A7 hL1 hc1
    refine AF<|Ap<|A6<|AJ<|Ac<|Ae z z<|be hL1 fun x21 hr6 hL1=>have hC25:=hC24.f2;?_
    obtain ⟨Fs5,hH5,hn5,hF5,hO5,hb5⟩:=AX (As:=[Af v1 (x6:(List Int)),Ag b3 [(I x5),v1,(I x7),(I x8),(I x9)],Ag b1 [(I 0),(.slice none 0 0),(I 0),(I 0),(I 0)]]) [Ag pb1 [u1,(I x10),(I x11)]] hC25
    refine AG Co z z (c_S_l1Once pb1 (a1.1,x10,x11) u1 (Bf g1 hC25.keep hF5) 3 hH5 hn5 x21 hr6) ?_
    rintro _ w11 ⟨rfl,hq5⟩
    have hC26:Ctx Fs.flatten w0 w11 [Ag pb1 [u1,(I x21.2.2.1),(I x21.2.2.2)],Af v1 (x6:(List Int)),Ag b3 [(I x5),v1,(I x7),(I x8),(I x9)],Ag b1 [(I 0),(.slice none 0 0),(I 0),(I 0),(I 0)]]:=hb5 _ _ hq5
    refine Ab<|be hL1 fun r2 hr7 hL1=>Bi (fun l w=>∃x22:Int,∃v4:Value,∃x23:(List Int),∃x24:Int,∃x25:Int,∃x26:Int,(x22,x23,x24,x25,x26)=r2∧l=[(0,(ptr pb1 0)),(1,u2),(4,(ptr b1 0)),(5,(ptr b3 0)),(6,(I x12))]∧Ctx Fs.flatten w0 w [Ag pb1 [u1,(I x21.2.2.1),(I x21.2.2.2)],Af v4 (x23:(List Int)),Ag b3 [(I x22),v4,(I x24),(I x25),(I x26)],Ag b1 [(I 0),(.slice none 0 0),(I 0),(I 0),(I 0)]]) ?_ ?_
    ·refine AE z (fun hc2=>?_) (fun hc2=>?_)
     ·replace hr7:=A7 hr7 hc2
      refine Bg<|fd AB Az z z z z<|Aq hC26 2 z z AM z z<|Ae z z<|AC (vs:=[(I x12)]) hC26 Ak ty3 z z z z (fac z<|fa0) z z fun b5 w13 hC28 hB6=>?_
      have hC29:=hC28.row0 (α:=Int)
      have hC30:=hC29.triv (Bx (x12))
      have hC31:=hC30.row1
      have hC32:=hC31.front 1 z
      dsimp only [List.eraseIdx,List.cons_append,List.nil_append,List.append_nil] at hC32
      have hC33:Ctx Fs.flatten w0 w13 (Af (.slice (some ⟨b5,0,none⟩) 1 1) ([x12]:List Int)::[Ag pb1 [u1,(I x21.2.2.1),(I x21.2.2.2)],Af v1 (x6:(List Int)),Ag b3 [(I x5),v1,(I x7),(I x8),(I x9)],Ag b1 [(I 0),(.slice none 0 0),(I 0),(I 0),(I 0)]]):=hC32.rowOwn (by simp [maxLen])
      refine be hr7 fun x27 hx2 hr7=>BF (α:=Int) hC33 2 z (hC33.ro 0 z) (A1 _ _) Ak ty3 z hx2 z z z fun v5 w14 hC34=>?_
      try dsimp only [List.set] at hC34
      refine fd AB Az z z z z<|B9 (cs':=[(I x5),v5,(I x7),(I x8),(I x9)]) hC34 3 z z (B0 (hC34.ro 2 z)) z Az z z fun w15 hC35 hKp2=>?_
      try dsimp only [List.set] at hC35
      refine Ab ?_
      obtain rfl:=Aa hr7
      have hC36:=hC35.f4
      have hC37:=hC36.f4
      have hC38:=hC37.f4
      have hC39:=hC38.f4
      have hC40:=hC39.h4
      exact Am (l':=[(0,(ptr pb1 0)),(1,u2),(4,(ptr b1 0)),(5,(ptr b3 0)),(6,(I x12))]) ⟨z,z,z,z,z,Aj⟩<|⟨x5,v5,x27,x7,x8,x9,z,z,hC40⟩
     replace hr7:=A8 hr7 hc2
     refine AF ?_
     obtain rfl:=Aa hr7
     exact Am (l':=[(0,(ptr pb1 0)),(1,u2),(4,(ptr b1 0)),(5,(ptr b3 0)),(6,(I x12))]) ⟨z,z,z,z,z,Aj⟩<|⟨x5,v1,x6,x7,x8,x9,z,z,hC26⟩
    rintro l2 _ w12 hs2 ⟨x22,v4,x23,x24,x25,x26,rfl,rfl,hC27⟩
    try dsimp only at hL1
    refine AU<|AY hs2<|?_
    clear hs2
    exact Bg<|Ae z z<|Bn z z z<|Ad z z<|Ab<|have hC41:=hC27.f3;have hC42:=hC41.f1;have hC43:=hC42.f3;have hC44:=hC43.f3;Am (l':=[(0,(ptr pb1 0)),(1,u2),(4,(ptr b1 0)),(5,(ptr b3 0)),(6,(I (w64 (x12+1))))]) ⟨z,z,z,z,z,Aj⟩<|⟨k1,A3 _,x22,v4,x23,x24,x25,x26,x21.2.2.1,x21.2.2.2,w64 (x12+1),z,hC44,hL1⟩
   replace hL1:=A8 hL1 hc1
   refine B1 (A9 (A9 (Bk ?_)))
   obtain rfl:=Aa hL1
   exact Am (l':=[(4,(ptr b1 0)),(5,(ptr b3 0))]) ⟨z,z,Aj⟩<|⟨x5,v1,x6,x7,x8,x9,x10,x11,z,z,hC24⟩
 rintro l3 _ w16 hs3 ⟨x13,v2,x14,x15,x16,x17,x18,x19,rfl,rfl,hC51⟩
 try dsimp only at hF
 refine AY hs3 ?_
 clear hs3
 refine Ac<|Au [(I x13),v2,(I x15),(I x16),(I x17)] hC51 1 z z z BQ B6 z z<|AA (cs':=[(I x13),v2,(I x15),(I x16),(I x17)]) (new:=[(I x13),v2,(I x15),(I x16),(I x17)]) hC51 3 z z (fac z<|fac (B0 (hC51.ro 0 z))<|fac z<|fac z<|fac z<|fa0) z B6 z z fun w17 hC52 hKp3=>?_
 try dsimp only [List.set] at hC52
 refine Ab (AL ?_)
 obtain rfl:=Aa hF
 refine Cq z (rv_cell_agg (cs':=[(I x13),v2,(I x15),(I x16),(I x17)]) hC52 (i:=3) z z z BQ B6 z)<|have hC53:=hC52.f2;have hC55:=hC53.f1;?_
 have hC54:=own_st93 x13 v2 x14 x15 x16 x17 hC55
 have hC56:=hC54.h2
 exact ⟨_,z,_,z,hC56⟩
theorem c_S_l5Methods {w0:World} {Fs:List (List Nat)} (pb1:Nat) (a1:((List UInt8) × Int × Int)) (u1:Value) (g1:RO Fs.flatten w0 u1 a1.1) (a2:(List Int)) (u2:Value) (g2:RO Fs.flatten w0 u2 a2) (hH:Hold [Ag pb1 [u1,(I a1.2.1),(I a1.2.2)]] w0 Fs) (hn:Fs.flatten.Nodup) (rr:((List (Int × (List Int) × Int × Int × Int)) × ((List UInt8) × Int × Int))) (hF:S.l5Methods a1 a2=some rr) :
 Calls Tryz.prog 167 [(ptr pb1 0),u2].toArray w0 fun e w'=>∃v,e=.returned v∧∃q0:Value,v=q0∧Ctx Fs.flatten w0 w' [Af q0 (rr.1:(List (Int × (List Int) × Int × Int × Int))),Ag pb1 [u1,(I rr.2.2.1),(I rr.2.2.2)]]:=by
 refine Ax Tryz.func167 z z ?_
 have hC0:=BE hH hn
 unfold S.l5Methods at hF
 refine Ac<|Ad z z<|Ab<|Ac<|AC (vs:=[]) hC0 Be ty93 z z z z (by simp) z z fun b1 w1 hC1 hB1=>?_
 have hC2:=hC1.row0 (α:=(Int × (List Int) × Int × Int × Int))
 have hC3:=hC2.front 1 z
 dsimp only [List.eraseIdx,List.cons_append,List.nil_append,List.append_nil] at hC3
 have hC4:Ctx Fs.flatten w0 w1 (Af (.slice (some ⟨b1,0,none⟩) 0 0) (([]:List (Int × (List Int) × Int × Int × Int)):List (Int × (List Int) × Int × Int × Int))::[Ag pb1 [u1,(I a1.2.1),(I a1.2.2)]]):=hC3.rowOwn (by simp [maxLen])
 refine Ad z z<|Ab<|A6<|Ac<|Ae z z<|be hF fun x1 hr1 hF=>have hC5:=hC4.f1;?_
 obtain ⟨Fs1,hH1,hn1,hF1,hO1,hb1⟩:=AX (As:=[Af (.slice (some ⟨b1,0,none⟩) 0 0) (([]:List (Int × (List Int) × Int × Int × Int)):(List (Int × (List Int) × Int × Int × Int)))]) [Ag pb1 [u1,(I a1.2.1),(I a1.2.2)]] hC5
 refine AG Bo z z (c_S_l1Below pb1 (a1.1,a1.2.1,a1.2.2) u1 (Bf g1 hC5.keep hF1) 4 hH1 hn1 x1 hr1) ?_
 rintro _ w2 ⟨rfl,hq1⟩
 have hC6:Ctx Fs.flatten w0 w2 [Ag pb1 [u1,(I x1.2.2.1),(I x1.2.2.2)],Af (.slice (some ⟨b1,0,none⟩) 0 0) (([]:List (Int × (List Int) × Int × Int × Int)):(List (Int × (List Int) × Int × Int × Int)))]:=hb1 _ _ hq1
 refine Bn z z z<|Ad z z<|Ab<|be hF fun r1 hr2 hF=>Bi (fun l w=>∃x6:Int,∃x7:Int,∃v2:Value,∃x8:(List (Int × (List Int) × Int × Int × Int)),(x6,x7,x8)=r1∧l=[(5,v2)]∧Ctx Fs.flatten w0 w [Ag pb1 [u1,(I x6),(I x7)],Af v2 (x8:(List (Int × (List Int) × Int × Int × Int)))]) ?_ ?_
 ·refine AJ<|wS (l':=[(0,(ptr pb1 0)),(1,u2),(5,(.slice (some ⟨b1,0,none⟩) 0 0)),(6,(I (w64 (1+x1.1))))]) ⟨z,z,z,z,Aj⟩<|B2 (fun k l w=>∃x2:Int,∃x3:Int,∃v1:Value,∃x4:(List (Int × (List Int) × Int × Int × Int)),∃x5:Int,l=[(0,(ptr pb1 0)),(1,u2),(5,v1),(6,(I x5))]∧Ctx Fs.flatten w0 w [Ag pb1 [u1,(I x2),(I x3)],Af v1 (x4:(List (Int × (List Int) × Int × Int × Int)))]∧S.l5Methods_l1 a1 a2 k x2 x3 x4 x5=some r1) FUEL ⟨x1.2.2.1,x1.2.2.2,(.slice (some ⟨b1,0,none⟩) 0 0),([]:List (Int × (List Int) × Int × Int × Int)),w64 (1+x1.1),z,hC6,hr2⟩<|?_
  clear hr2
  rintro k1 _ w3 ⟨x2,x3,v1,x4,x5,rfl,hC7,hL1⟩
  cases k1 with
  | zero=>rw [S.l5Methods_l1] at hL1; cases hL1
  | succ k1 =>
   rw [S.l5Methods_l1] at hL1
   refine A6<|Ac<|Ae z z<|Ca z z z<|Ab<|AE z (fun hc1=>?_) (fun hc1=>?_)
   ·replace hL1:=A7 hL1 hc1
    refine AF<|Ap<|A6<|AJ<|Ac<|Ae z z<|Ae z z<|be hL1 fun x9 hr3 hL1=>?_
    obtain ⟨Fs2,hH2,hn2,hF2,hO2,hb2⟩:=AX (As:=[Af v1 (x4:(List (Int × (List Int) × Int × Int × Int)))]) [Ag pb1 [u1,(I x2),(I x3)]] hC7
    refine AG Tryz.call201 z z (c_S_l5Method pb1 (a1.1,x2,x3) u1 (Bf g1 hC7.keep hF2) a2 u2 (Bf g2 hC7.keep hF2) hH2 hn2 x9 hr3) ?_
    rintro v3 w4 ⟨_,rfl,hq2⟩
    have hC8:Ctx Fs.flatten w0 w4 [Af v3 (x9.1:(Int × (List Int) × Int × Int × Int)),Ag pb1 [u1,(I x9.2.2.1),(I x9.2.2.2)],Af v1 (x4:(List (Int × (List Int) × Int × Int × Int)))]:=hb2 _ _ hq2
    obtain ⟨v4,rfl,hC9⟩:=st93_own hC8
    refine Bw hC9 zero93 z z fun b2 w5 hC10 hB3 hN1=>AA (cs':=[(I x9.1.1),v4,(I x9.1.2.2.1),(I x9.1.2.2.2.1),(I x9.1.2.2.2.2)]) (new:=[(I x9.1.1),v4,(I x9.1.2.2.1),(I x9.1.2.2.2.1),(I x9.1.2.2.2.2)]) hC10 0 z z (fac z<|fac (B0 (hC10.ro 1 z))<|fac z<|fac z<|fac z<|fa0) z B6 z z fun w6 hC11 hKp1=>?_
    try dsimp only [List.set] at hC11
    have hk1:=AO (Ao hB3) hN1 hKp1
    refine Ab<|Bg<|Ae z z<|Au [(I x9.1.1),v4,(I x9.1.2.2.1),(I x9.1.2.2.2.1),(I x9.1.2.2.2.2)] hC11 0 z z z BQ B6 z z<|AC (vs:=[(.agg #[(I x9.1.1),v4,(I x9.1.2.2.1),(I x9.1.2.2.2.1),(I x9.1.2.2.2.2)])]) hC11 Be ty93 z z z z (fac z<|fa0) z z fun b3 w7 hC12 hB4=>?_
    have hC13:=hC12.row0 (α:=(Int × (List Int) × Int × Int × Int))
    have hC15:=hC13.f3
    have hC14:=own_st93 x9.1.1 v4 x9.1.2.1 x9.1.2.2.1 x9.1.2.2.2.1 x9.1.2.2.2.2 hC15
    have hC16:=hC14.row1
    have hC17:=hC16.front 1 z
    dsimp only [List.eraseIdx,List.cons_append,List.nil_append,List.append_nil] at hC17
    have hC18:Ctx Fs.flatten w0 w7 (Af (.slice (some ⟨b3,0,none⟩) 1 1) ([(x9.1.1,x9.1.2.1,x9.1.2.2.1,x9.1.2.2.2.1,x9.1.2.2.2.2)]:List (Int × (List Int) × Int × Int × Int))::[Ag b2 [(I x9.1.1),v4,(I x9.1.2.2.1),(I x9.1.2.2.2.1),(I x9.1.2.2.2.2)],Ag pb1 [u1,(I x9.2.2.1),(I x9.2.2.2)],Af v1 (x4:(List (Int × (List Int) × Int × Int × Int)))]):=hC17.rowOwn (by simp [maxLen])
    refine be hL1 fun x10 hx1 hL1=>By hC18 2 z Be ty93 z hx1 z z z fun v5 w9 hC19=>?_
    try dsimp only [List.set] at hC19
    exact Ad z z<|Ab<|AU<|Ap<|Bg<|Ae z z<|BR z z z<|Ad z z<|Ab<|have hC21:=hC19.f2;have hC22:=hC21.f2;have hC23:=hC22.h2;Am (l':=[(0,(ptr pb1 0)),(1,u2),(5,v5),(6,(I (w64 (x5 - 1))))]) ⟨z,z,z,z,Aj⟩<|⟨k1,A3 _,x9.2.2.1,x9.2.2.2,v5,x10,w64 (x5 - 1),z,hC23,hL1⟩
   replace hL1:=A8 hL1 hc1
   refine B1 (A9 (A9 (Bk ?_)))
   obtain rfl:=Aa hL1
   exact Am (l':=[(5,v1)]) ⟨z,Aj⟩<|⟨x2,x3,v1,x4,z,z,hC7⟩
 rintro l2 _ w10 hs2 ⟨x6,x7,v2,x8,rfl,rfl,hC24⟩
 try dsimp only at hF
 refine AY hs2 ?_
 clear hs2
 refine Ac<|Ae z z<|Ad z z<|Ab<|AL<|?_
 obtain rfl:=Aa hF
 exact A2 z z<|have hC25:=hC24.f1;⟨_,z,_,z,hC25⟩
end Go.Gx.Px
