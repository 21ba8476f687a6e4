/- The contracts of the Go functions against the pure functions, printed by program. Conditions: each says them. -/
import Derived.Test.YthidohmobbomfaaGreatTy
import Derived.Test.YthidohmobbomfaaGreatGxZn
import Derived.Test.YthidohmobbomfaaGreatPure
set_option linter.unusedVariables false
set_option linter.unusedSimpArgs false
set_option maxRecDepth 100000
set_option maxHeartbeats 4000000
namespace Go.Gx.Px
open Go.Proofs Go.RowKit
namespace K9
abbrev I (x : Int) : Value := .int .i64 x
abbrev Aa:=@Option.some.inj
abbrev Ab:=@WL_nil
abbrev Ac:=@W_seq_reg
abbrev Ad:=@Item.own
abbrev Ae:=@WL_assign
abbrev Af:=@WL_move
abbrev Ag:=@Tryz.underlying24
abbrev Ah:=@trivial
abbrev Ai:=@Item.box
abbrev Aj:=@nrm_normal
abbrev Ak:=@WL_guard
abbrev Al:=@WL_load_box
abbrev Am:=@Below.refl
abbrev An:=@nrm_sub
abbrev Ao:=@Tryz.underlying35
abbrev Ap:=@Keep.of
abbrev Aq:=@StepsE_cons
abbrev Ar:=@nrm_ret
abbrev At:=@Tryz.isAgg24
abbrev Au:=@Tryz.sizeOf24
abbrev Av:=@AllE_cons
abbrev Aw:=@calls_of_W
abbrev Ax:=@DepsE_nil
abbrev Ay:=@fn_ret1
abbrev Az:=@Nat.lt_succ_self
abbrev A0:=@W_seq
abbrev A1:=@Ctx.start
abbrev A2:=@nrm_exit
abbrev A3:=@FinE_val
abbrev A4:=@WL_load_box_agg
abbrev A5:=@Tryz.sizeOf3
abbrev A6:=@W_skip
abbrev A7:=@W_cond
abbrev A8:=@WL_buildSlice
abbrev A9:=@ite_t
abbrev AA:=@ite_f
abbrev AB:=@W_block
abbrev AC:=@W_ret
abbrev AD:=@bool_res
abbrev AE:=@WL_index
abbrev AF:=@Tryz.underlying77
abbrev AG:=@Tryz.underlying31
abbrev AH:=@WL_load
abbrev AI:=@Keep.over
abbrev AJ:=@blk_normal
abbrev AK:=@Tryz.underlying110
abbrev AL:=@WL_len
abbrev AM:=@Nat.le_trans
abbrev AN:=@DepsE_cons
abbrev AO:=@nrm_sub'
abbrev AP:=@Keep.refl
abbrev AQ:=@Tryz.underlying84
abbrev AR:=@Tryz.underlying26
abbrev AS:=@WL_store_box_aggK
abbrev AT:=@blk_exit
abbrev AU:=@blk_ret
abbrev AV:=@Tryz.isAgg3
abbrev AW:=@WL_lss
abbrev AX:=@W_reg
abbrev AY:=@WL_pick_f
abbrev AZ:=@Tryz.underlying93
abbrev Ba:=@WL_pick_t
abbrev Bb:=@WL_boxK
abbrev Bc:=@WL_call
abbrev Bd:=@Tryz.underlying82
abbrev Be:=@WL_add
abbrev Bf:=@W_norm
abbrev Bg:=@PW.val
abbrev Bh:=@Tryz.sizeOf149
abbrev Bi:=@Tryz.underlying25
abbrev Bj:=@Tryz.underlying149
abbrev Bk:=@int_res
abbrev Bl:=@StepsE_nil
abbrev Bm:=@W_exit
abbrev Bn:=@Tryz.underlying43
abbrev Bo:=@W_loop
abbrev Bp:=@Tryz.underlying41
abbrev Bq:=@WA_postsE
abbrev Br:=@Tryz.sizeOf77
abbrev Bt:=@WL_append_flat
abbrev Bu:=@Tryz.sizeOf82
abbrev Bv:=@AllE_nil
abbrev Bw:=@WL_not
abbrev Bx:=@Tryz.sizeOf35
abbrev By:=@ro_int
abbrev Bz:=@WL_fork
abbrev B0:=@WL_allocK
abbrev B1:=@ro_one
abbrev B2:=@int_val
abbrev B3:=@Tryz.sizeOf84
abbrev B4:=@Tryz.isAgg77
abbrev B5:=@Tryz.underlying99
abbrev B6:=@Tryz.isAgg149
abbrev B7:=@own_res
abbrev B8:=@fl_index
abbrev B9:=@Tryz.isAgg35
abbrev BA:=@WL_append_head
abbrev BB:=@Tryz.sizeOf41
abbrev BC:=@Tryz.sizeOf43
abbrev BD:=@WL_index_own
abbrev BE:=@WL_store_boxK
abbrev BF:=@Tryz.isAgg84
abbrev BG:=@fl_field
abbrev BH:=@W_cut
abbrev BI:=@WL_neq
abbrev BJ:=@WL_extract
abbrev BK:=@Tryz.isAgg41
abbrev BL:=@Tryz.isAgg43
abbrev BM:=@ro_st77
abbrev BN:=@Tryz.call117
abbrev BO:=@Ctx.lend2
abbrev BP:=@WA_fork
abbrev BQ:=@WL_callv
abbrev BR:=@res_bool
abbrev BS:=@WL_makeFunc
abbrev BT:=@Tryz.sizeOf110
abbrev BU:=@bool_val
abbrev BV:=@Ctx.startIn
abbrev BW:=@FinE_own
abbrev BX:=@PW.own
abbrev BY:=@Tryz.call119
abbrev BZ:=@Tryz.isAgg82
abbrev Ca:=@WL_eql
abbrev Cb:=@fl_move
abbrev Cc:=@PW.ro
abbrev Cd:=@Tryz.sizeOf93
abbrev Ce:=@Tryz.underlying103
abbrev Cf:=@Tryz.underlying107
abbrev Ci:=@own_st149
abbrev Cj:=@PW.at
abbrev Ck:=@WL_build
abbrev Cl:=@fn_retG1
abbrev Cm:=@own_st77
abbrev Cn:=@Tryz.underlying47
abbrev Co:=@Tryz.underlying48
abbrev Cp:=@Tryz.underlying51
abbrev Cq:=@Item.hole
abbrev Cr:=@Tryz.call30
abbrev Cs:=@fl_not
abbrev Ct:=@WL_store_hole
abbrev Cu:=@WL_geq
abbrev Cv:=@WL_sub
abbrev Cw:=@WL_sl_l
abbrev Cx:=@Tryz.isAgg110
abbrev Cy:=@FinE_ctx
abbrev Cz:=@WL_store_elem
abbrev C0:=@ro_st84
abbrev C1:=@WL_gtr
abbrev C2:=@Tryz.underlying109
abbrev C3:=@Tryz.call35
abbrev C4:=@Tryz.call39
abbrev C5:=@Tryz.isAgg26
abbrev C6:=@Tryz.isAgg93
abbrev C7:=@Tryz.underlying50
abbrev C8:=@WL_load_hole
abbrev C9:=@Tryz.sizeOf50
abbrev CA:=@W_cond_t
abbrev CB:=@W_cond_f
abbrev CC:=@own_st84
abbrev CD:=@ro_st149
abbrev CE:=@Tryz.call65
abbrev CF:=@Tryz.func197
abbrev CG:=@Tryz.func153
abbrev CH:=@Tryz.call197
abbrev CI:=@Tryz.call153
abbrev CJ:=@Tryz.call143
abbrev CK:=@Tryz.func189
abbrev CL:=@Tryz.call189
abbrev CM:=@WL_makeSlice
abbrev CN:=@Tryz.isAgg50
abbrev CO:=@ro_of_own
abbrev CP:=@own_st110
abbrev CQ:=@WL_leq
abbrev CR:=@Tryz.underlying152
abbrev CS:=@Tryz.underlying106
abbrev CT:=@Tryz.underlying188
abbrev CU:=@Tryz.sizeOf106
abbrev CV:=@WL_load_rhole_agg
abbrev CW:=@Tryz.call73
abbrev CX:=@ro_st110
abbrev CY:=@fl_build
abbrev CZ:=@fl_neq
abbrev Da:=@Tryz.isAgg25
abbrev Db:=@fn_ret3
abbrev Dc:=@WL_copy
abbrev Dd:=@Nat.min
abbrev De:=@fl_sl_l
abbrev Df:=@Item.rhole
abbrev Dg:=@Tryz.call209
abbrev Dh:=@Tryz.call105
abbrev Di:=@Tryz.call171
abbrev Dj:=@Tryz.call98
abbrev Dk:=@Nat.le_refl
abbrev Dl:=@Tryz.call85
abbrev Dm:=@WL_index_rhole
abbrev Dn:=@fn_retG2
abbrev Dp:=@Tryz.call31
abbrev Dq:=@Tryz.call32
abbrev Dr:=@Tryz.call33
abbrev Ds:=@fl_pick_t
abbrev Dt:=@fl_pick_f
abbrev Du:=@ro_st93
abbrev Dv:=@fl_sub
abbrev Dw:=@StepsE_use
abbrev Dx:=@fn_ret2
abbrev Dy:=@fl_eql
end K9
open K9
theorem c_M_within {w0:World} (a1:Int) (a2:Int) (a3:Int) (rr:Bool) (hF:M.within a1 a2 a3=some rr) :
 Calls Tryz.prog 119 [(I a1),(I a2),(I a3)].toArray w0 fun e w'=>∃v,e=.returned v∧Res w0 rr v w':=by
 refine Aw Tryz.func119 z z ?_
 have hC0:=A1 w0
 unfold M.within at hF
 refine Ac<|Ae z z<|Ab<|be hF fun r1 hr1 hF=>BH (fun l w=>∃x1:Bool,x1=r1∧l=[(6,(.bool x1))]∧Below w0.heap.size w0 w∧Ctx [] w0 w []) ?_ ?_
 ·refine AX<|Af z z<|Af z z<|Cu z z z<|Af z z<|Bz (fun hc1=>?_) (fun hc1=>?_)
  ·replace hr1:=A9 hr1 hc1
   refine Ak z z<|Af z z<|Ak z z<|Af z z<|Ak z z<|CQ z z z<|Ba z z z<|Ae z z<|Ab<|?_
   obtain rfl:=Aa hr1
   exact An (l':=[(6,(.bool (decide (a1 ≤ a3))))]) ⟨z,Ah⟩<|⟨(decide (a1 ≤ a3)),z,z,(Am _ _),hC0⟩
  replace hr1:=AA hr1 hc1
  refine gs z z z z<|gs z z z z<|gs z z z z<|AY z z z<|Ae z z<|Ab<|?_
  obtain rfl:=Aa hr1
  exact An (l':=[(6,(.bool false))]) ⟨z,Ah⟩<|⟨false,z,z,(Am _ _),hC0⟩
 rintro _ w1 ⟨x1,rfl,rfl,hB1,hC1⟩
 try dsimp only at hF
 refine AC ?_
 obtain rfl:=Aa hF
 exact Ay z z<|⟨_,z,AD hC1 _⟩
theorem c_M_IsSchema_c1 {w0:World} (a1:Int) (rr:Bool) (hF:M.IsSchema_c1 a1=some rr) :
 Calls Tryz.prog 154 [(I a1)].toArray w0 fun e w'=>∃v,e=.returned v∧Res w0 rr v w':=by
 refine Aw Tryz.func154 z z ?_
 have hC0:=A1 w0
 unfold M.IsSchema_c1 at hF
 refine Ac<|Ae z z<|Ab<|Ac<|Af z z<|be hF fun x1 hr1 hF=>cb BY z z (c_M_within a1 1 3 x1 hr1) fun w1 hB1=>have hC1:=hC0.grow hB1;Bw z z<|Ae z z<|Ab<|AC<|?_
 obtain rfl:=Aa hF
 exact Ay z z<|⟨_,z,AD hC1 _⟩
theorem c_Slices_IndexFunc_Lint_int_M_IsSchema_c1 {w0:World} (a1:(List Int)) (u1:Value) (g1:RO [] w0 u1 a1) (rr:Int) (hF:Slices.IndexFunc_Lint_int_M_IsSchema_c1 a1=some rr) :
 Calls Tryz.prog 197 [u1,(.func (.func 154) #[] #[])].toArray w0 fun e w'=>∃v,e=.returned v∧Res w0 rr v w':=by
 refine Aw CF z z ?_
 have hC0:=A1 w0
 unfold Slices.IndexFunc_Lint_int_M_IsSchema_c1 at hF
 refine Ac<|Ae z z<|Ab<|A0<|Ac<|Af z z<|AL Ag g1 z z<|Af z z<|Ab<|be hF fun r1 hr1 hF=>Bf (fun l w=>.inl ()=r1∧l=[]∧Below w0.heap.size w0 w∧Ctx [] w0 w []) ?_ ?_
 ·refine AB<|wS (l':=[(0,u1),(1,(.func (.func 154) #[] #[])),(7,(I (List.length a1:Int))),(8,(I 0))]) ⟨z,z,z,z,Ah⟩<|Bo (fun k l w=>∃x1:Int,l=[(0,u1),(1,(.func (.func 154) #[] #[])),(7,(I (List.length a1:Int))),(8,(I x1))]∧Below w0.heap.size w0 w∧Ctx [] w0 w []∧Slices.IndexFunc_Lint_int_M_IsSchema_c1_l1 a1 k x1=some r1) FUEL ⟨0,z,(Am _ _),hC0,hr1⟩<|?_
  clear hr1
  rintro k1 _ w1 ⟨x1,rfl,hB1,hC1,hL1⟩
  cases k1 with
  | zero=>rw [Slices.IndexFunc_Lint_int_M_IsSchema_c1_l1] at hL1; cases hL1
  | succ k1 =>
   rw [Slices.IndexFunc_Lint_int_M_IsSchema_c1_l1] at hL1
   refine Ac<|AW z z z<|Ab<|A0<|A7 z (fun hc1=>?_) (fun hc1=>?_)
   ·replace hL1:=A9 hL1 hc1
    refine A6<|Aj<|A0<|AB<|Ac<|Af z z<|Ae z z<|Ab<|Ac<|Af z z<|Af z z<|Af z z<|be hL1 fun x2 hx1 hL1=>AE Ag ty3 g1 hx1 z z z fun b1 o1 h1=>AH ty3 h1 hC1.keep z z fun v1 h2=>?_
    obtain rfl:=By h2
    refine be hL1 fun x3 hr2 hL1=>BQ (cap:=[]) Tryz.call154 z z z (c_M_IsSchema_c1 x2 x3 hr2) fun _ w2 hv1=>?_
    obtain ⟨rfl,hB2⟩:=BR hv1
    have hC2:=hC1.grow hB2
    refine Ab<|A7 z (fun hc2=>?_) (fun hc2=>?_)
    ·replace hL1:=A9 hL1 hc2
     refine Ac<|Af z z<|Ae z z<|Ab<|AC<|AU<|Ar<|Ar<|AU<|Ar<|Ar<|?_
     obtain rfl:=Aa hL1
     dsimp only at hF
     obtain rfl:=Aa hF
     exact Ay z z<|⟨_,z,Bk hC2 _⟩
    replace hL1:=AA hL1 hc2
    exact A6<|AJ<|Aj<|AX<|Be z z z<|Af z z<|Ab<|An (l':=[(0,u1),(1,(.func (.func 154) #[] #[])),(7,(I (List.length a1:Int))),(8,(I (w64 (x1+1))))]) ⟨z,z,z,z,Ah⟩<|⟨k1,Az _,w64 (x1+1),z,((Ap hB1).then hB2).below,hC2,hL1⟩
   replace hL1:=AA hL1 hc1
   refine Bm (A2 (A2 (AT ?_)))
   obtain rfl:=Aa hL1
   exact An (l':=[]) Ah<|⟨z,z,(Ap hB1).below,hC1⟩
 rintro l2 _ w3 hs2 ⟨rfl,rfl,hB3,hC3⟩
 try dsimp only at hF
 refine AO hs2 ?_
 clear hs2
 refine Ac<|Ae z z<|Ab<|AC<|?_
 obtain rfl:=Aa hF
 exact Ay z z<|⟨_,z,Bk hC3 _⟩
theorem c_Slices_ContainsFunc_Lint_int_M_IsSchema_c1 {w0:World} (a1:(List Int)) (u1:Value) (g1:RO [] w0 u1 a1) (rr:Bool) (hF:Slices.ContainsFunc_Lint_int_M_IsSchema_c1 a1=some rr) :
 Calls Tryz.prog 153 [u1,(.func (.func 154) #[] #[])].toArray w0 fun e w'=>∃v,e=.returned v∧Res w0 rr v w':=by
 refine Aw CG z z ?_
 have hC0:=A1 w0
 unfold Slices.ContainsFunc_Lint_int_M_IsSchema_c1 at hF
 refine Ac<|Ae z z<|Ab<|Ac<|Af z z<|Af z z<|be hF fun x1 hr1 hF=>ci CH z z (c_Slices_IndexFunc_Lint_int_M_IsSchema_c1 a1 u1 (g1.now hC0.keep) x1 hr1) fun w1 hB1=>have hC1:=hC0.grow hB1;Cu z z z<|Ae z z<|Ab<|AC<|?_
 obtain rfl:=Aa hF
 exact Ay z z<|⟨_,z,AD hC1 _⟩
theorem c_M_IsSchema {w0:World} (a1:(List Int)) (u1:Value) (g1:RO [] w0 u1 a1) (rr:Bool) (hF:M.IsSchema a1=some rr) :
 Calls Tryz.prog 98 [u1].toArray w0 fun e w'=>∃v,e=.returned v∧Res w0 rr v w':=by
 refine Aw Tryz.func98 z z ?_
 have hC0:=A1 w0
 unfold M.IsSchema at hF
 refine Ac<|Ae z z<|Ab<|be hF fun r1 hr1 hF=>BH (fun l w=>∃x1:Bool,x1=r1∧l=[(2,(.bool x1))]∧Below w0.heap.size w0 w∧Ctx [] w0 w []) ?_ ?_
 ·refine AX<|Af z z<|AL Ag g1 z z<|be hr1 fun x2 hr2 hr1=>cb BY z z (c_M_within (List.length a1:Int) 1 3 x2 hr2) fun w2 hB2=>have hC2:=hC0.grow hB2;Af z z<|Bz (fun hc1=>?_) (fun hc1=>?_)
  ·replace hr1:=A9 hr1 hc1
   refine Ak z z<|Af z z<|be hr1 fun x3 hr3 hr1=>Ak z z<|cb CI z z (c_Slices_ContainsFunc_Lint_int_M_IsSchema_c1 a1 u1 (g1.now hC2.keep) x3 hr3) fun w3 hB3=>have hC3:=hC2.grow hB3;Ak z z<|Bw z z<|Ba z z z<|Ae z z<|Ab<|?_
   obtain rfl:=Aa hr1
   exact An (l':=[(2,(.bool (!x3)))]) ⟨z,Ah⟩<|⟨(!x3),z,z,((Ap hB2).then hB3).below,hC3⟩
  replace hr1:=AA hr1 hc1
  refine gs z z z z<|gs z z z z<|gs z z z z<|AY z z z<|Ae z z<|Ab<|?_
  obtain rfl:=Aa hr1
  exact An (l':=[(2,(.bool false))]) ⟨z,Ah⟩<|⟨false,z,z,(Ap hB2).below,hC2⟩
 rintro _ w1 ⟨x1,rfl,rfl,hB1,hC1⟩
 try dsimp only at hF
 refine AC ?_
 obtain rfl:=Aa hF
 exact Ay z z<|⟨_,z,AD hC1 _⟩
theorem c_M_hasRel {w0:World} (a1:(List Int)) (u1:Value) (g1:RO [] w0 u1 a1) (a2:Int) (rr:Bool) (hF:M.hasRel a1 a2=some rr) :
 Calls Tryz.prog 156 [u1,(I a2)].toArray w0 fun e w'=>∃v,e=.returned v∧Res w0 rr v w':=by
 refine Aw Tryz.func156 z z ?_
 have hC0:=A1 w0
 unfold M.hasRel at hF
 refine Ac<|Ae z z<|Ab<|be hF fun r1 hr1 hF=>BH (fun l w=>∃x1:Bool,x1=r1∧l=[(4,(.bool x1))]∧Below w0.heap.size w0 w∧Ctx [] w0 w []) ?_ ?_
 ·refine AX<|Af z z<|be hr1 fun x2 hr2 hr1=>cb Dj z z (c_M_IsSchema a1 u1 (g1.now hC0.keep) x2 hr2) fun w2 hB2=>have hC2:=hC0.grow hB2;Af z z<|Bz (fun hc1=>?_) (fun hc1=>?_)
  ·replace hr1:=A9 hr1 hc1
   refine Ak z z<|Af z z<|Ak z z<|Af z z<|Ak z z<|AL Ag g1 z z<|Ak z z<|Cv z z z<|be hr1 fun x3 hr3 hr1=>Ak z z<|cb BY z z (c_M_within a2 0 (w64 ((List.length a1:Int) - 1)) x3 hr3) fun w3 hB3=>have hC3:=hC2.grow hB3;Ba z z z<|Ae z z<|Ab<|?_
   obtain rfl:=Aa hr1
   exact An (l':=[(4,(.bool x3))]) ⟨z,Ah⟩<|⟨x3,z,z,((Ap hB2).then hB3).below,hC3⟩
  replace hr1:=AA hr1 hc1
  refine gs z z z z<|gs z z z z<|gs z z z z<|gs z z z z<|gs z z z z<|AY z z z<|Ae z z<|Ab<|?_
  obtain rfl:=Aa hr1
  exact An (l':=[(4,(.bool false))]) ⟨z,Ah⟩<|⟨false,z,z,(Ap hB2).below,hC2⟩
 rintro _ w1 ⟨x1,rfl,rfl,hB1,hC1⟩
 try dsimp only at hF
 refine AC ?_
 obtain rfl:=Aa hF
 exact Ay z z<|⟨_,z,AD hC1 _⟩
theorem c_M_ascending {w0:World} (a1:(List Int)) (u1:Value) (g1:RO [] w0 u1 a1) (rr:Bool) (hF:M.ascending a1=some rr) :
 Calls Tryz.prog 198 [u1].toArray w0 fun e w'=>∃v,e=.returned v∧Res w0 rr v w':=by
 refine Aw Tryz.func198 z z ?_
 have hC0:=A1 w0
 unfold M.ascending at hF
 refine Ac<|Ae z z<|Ab<|A0<|Ac<|Af z z<|AL Ag g1 z z<|Af z z<|Ab<|be hF fun r1 hr1 hF=>Bf (fun l w=>.inl ()=r1∧l=[]∧Below w0.heap.size w0 w∧Ctx [] w0 w []) ?_ ?_
 ·refine AB<|wS (l':=[(0,u1),(5,(I (List.length a1:Int))),(6,(I 0))]) ⟨z,z,z,Ah⟩<|Bo (fun k l w=>∃x1:Int,l=[(0,u1),(5,(I (List.length a1:Int))),(6,(I x1))]∧Below w0.heap.size w0 w∧Ctx [] w0 w []∧M.ascending_l1 a1 k x1=some r1) FUEL ⟨0,z,(Am _ _),hC0,hr1⟩<|?_
  clear hr1
  rintro k1 _ w1 ⟨x1,rfl,hB1,hC1,hL1⟩
  cases k1 with
  | zero=>rw [M.ascending_l1] at hL1; cases hL1
  | succ k1 =>
   rw [M.ascending_l1] at hL1
   refine Ac<|AW z z z<|Ab<|A0<|A7 z (fun hc1=>?_) (fun hc1=>?_)
   ·replace hL1:=A9 hL1 hc1
    refine A6<|Aj<|A0<|AB<|Ac<|Af z z<|Ae z z<|Ab<|be hL1 fun r2 hr2 hL1=>BH (fun l w=>∃x2:Bool,x2=r2∧l=[(0,u1),(5,(I (List.length a1:Int))),(6,(I x1)),(22,(.bool x2))]∧Below w1.heap.size w1 w∧Ctx [] w0 w []) ?_ ?_
    ·refine W_drawn 14 z hmix fun w3 hB3=>have hC3:=hC1.grow hB3;tm 0 z z z<|tk 1 z z (fl_gtr z z)<|C1 z z z<|Ab<|tm 2 z z z<|BP (fun hc2=>?_) (fun hc2=>?_)
     ·replace hr2:=A9 hr2 hc2
      refine tn 3 z z z z z<|tn 4 z z z z z<|be hr2 fun x3 hx1 hr2=>tg 5 z z z z (B8 Ag ty3 g1 hx1 z z)<|Ak z z<|AE Ag ty3 g1 hx1 z z z fun b1 o1 h1=>Ab<|tn 7 z z z z z<|tn 8 z z z z z<|tg 9 z z z z (Dv z z)<|Ak z z<|Cv z z z<|Ab<|be hr2 fun x4 hx2 hr2=>tg 10 z z z z (B8 Ag ty3 g1 hx2 z z)<|Ak z z<|AE Ag ty3 g1 hx2 z z z fun b2 o2 h2=>Ab<|wAS (l':=[(0,u1),(3,(I x1)),(5,(I (List.length a1:Int))),(6,(I x1)),(7,(.bool (decide (x1 < (List.length a1:Int))))),(8,(I x1)),(9,(I x1)),(10,(.bool (decide (0 < x1)))),(11,(.bool true)),(12,u1),(13,(I x1)),(14,(ptr b1 o1)),(16,u1),(17,(I x1)),(18,(I (w64 (x1 - 1)))),(19,(ptr b2 o2))]) ⟨z,z,z,z,z,z,z,z,z,z,z,z,z,z,z,z,Ah⟩<|Bq [⟨6,[],fun vs=>Bg (I x3),[]⟩,⟨11,[],fun vs=>Bg (I x4),[]⟩] [[],[]] 2 z (by kernel_rfl) (by kernel_rfl) z ?_ ?_
      ·refine Aq z ?_ ?_
       ·intro w4 hB4
        refine Ax<|⟨_,z,?_⟩
        refine Ak z z<|AH ty3 h1 (hC3.keep.then hB4) z z fun v1 h3=>?_
        obtain rfl:=By h3
        exact Ab<|A3 (Am _ _) z z ⟨z,z⟩
       refine Aq z ?_ ?_
       ·intro w4 hB4
        refine Ax<|⟨_,z,?_⟩
        refine Ak z z<|AH ty3 h2 (hC3.keep.then hB4) z z fun v2 h4=>?_
        obtain rfl:=By h4
        exact Ab<|A3 (Am _ _) z z ⟨z,z⟩
       exact Bl
      intro w5 hB5
      refine Av z z z ?_
      rintro _ _ ⟨rfl,rfl⟩
      refine Av z z z ?_
      rintro _ _ ⟨rfl,rfl⟩
      refine Bv fun hn1 hb1=>have hC4:=hC3.grow hB5;tg 12 z z z z (fl_leq z z)<|Ak z z<|CQ z z z<|Ab<|tp 13 z z z z<|dn<|?_
      obtain rfl:=Aa hr2
      exact An (l':=[(0,u1),(5,(I (List.length a1:Int))),(6,(I x1)),(22,(.bool (decide (x3 ≤ x4))))]) ⟨z,z,z,z,Ah⟩<|⟨(decide (x3 ≤ x4)),z,z,((Ap hB3).then hB5).below,hC4⟩
     replace hr2:=AA hr2 hc2
     refine sk 3 z z z z z<|sk 4 z z z z z<|sk 5 z z z z z<|sk 6 z z z z z<|sk 7 z z z z z<|sk 8 z z z z z<|sk 9 z z z z z<|sk 10 z z z z z<|sk 11 z z z z z<|sk 12 z z z z z<|tq 13 z z z z<|dn<|?_
     obtain rfl:=Aa hr2
     exact An (l':=[(0,u1),(5,(I (List.length a1:Int))),(6,(I x1)),(22,(.bool false))]) ⟨z,z,z,z,Ah⟩<|⟨false,z,z,(Ap hB3).below,hC3⟩
    rintro _ w2 ⟨x2,rfl,rfl,hB2,hC2⟩
    try dsimp only at hL1
    refine A7 z (fun hc3=>?_) (fun hc3=>?_)
    ·replace hL1:=A9 hL1 hc3
     refine Ac<|Ae z z<|Ab<|AC<|AU<|Ar<|Ar<|AU<|Ar<|Ar<|?_
     obtain rfl:=Aa hL1
     dsimp only at hF
     obtain rfl:=Aa hF
     exact Ay z z<|⟨_,z,AD hC2 _⟩
    replace hL1:=AA hL1 hc3
    exact A6<|AJ<|Aj<|AX<|Be z z z<|Af z z<|Ab<|An (l':=[(0,u1),(5,(I (List.length a1:Int))),(6,(I (w64 (x1+1))))]) ⟨z,z,z,Ah⟩<|⟨k1,Az _,w64 (x1+1),z,((Ap hB1).then hB2).below,hC2,hL1⟩
   replace hL1:=AA hL1 hc1
   refine Bm (A2 (A2 (AT ?_)))
   obtain rfl:=Aa hL1
   exact An (l':=[]) Ah<|⟨z,z,(Ap hB1).below,hC1⟩
 rintro l3 _ w6 hs3 ⟨rfl,rfl,hB6,hC5⟩
 try dsimp only at hF
 refine AO hs3 ?_
 clear hs3
 refine Ac<|Ae z z<|Ab<|AC<|?_
 obtain rfl:=Aa hF
 exact Ay z z<|⟨_,z,AD hC5 _⟩
theorem c_M_Method_fits_c1 {w0:World} (a1:Int) (pb1:Nat) (ax1:Int) (g1:ROAt [] w0 pb1 0 ax1) (rr:Bool) (hF:M.Method_fits_c1 a1 ax1=some rr) :
 Calls Tryz.prog 199 [(I a1),(ptr pb1 0)].toArray w0 fun e w'=>∃v,e=.returned v∧Res w0 rr v w':=by
 refine Aw Tryz.func199 z z ?_
 have hC0:=A1 w0
 unfold M.Method_fits_c1 at hF
 refine Ac<|Ae z z<|Ab<|Ac<|Af z z<|AH ty3 g1 hC0.keep z z fun v1 h1=>?_
 obtain rfl:=By h1
 refine Cv z z z<|be hF fun x1 hr1 hF=>cb BY z z (c_M_within a1 0 (w64 (ax1 - 1)) x1 hr1) fun w1 hB1=>have hC1:=hC0.grow hB1;Bw z z<|Ae z z<|Ab<|AC<|?_
 obtain rfl:=Aa hF
 exact Ay z z<|⟨_,z,AD hC1 _⟩
theorem c_M_isCost {w0:World} (a1:Int) (rr:Bool) (hF:M.isCost a1=some rr) :
 Calls Tryz.prog 200 [(I a1)].toArray w0 fun e w'=>∃v,e=.returned v∧Res w0 rr v w':=by
 refine Aw Tryz.func200 z z ?_
 have hC0:=A1 w0
 unfold M.isCost at hF
 refine Ac<|Ae z z<|Ab<|Ac<|Af z z<|be hF fun x1 hr1 hF=>cb BY z z (c_M_within a1 0 99 x1 hr1) fun w1 hB1=>have hC1:=hC0.grow hB1;Ae z z<|Ab<|AC<|?_
 obtain rfl:=Aa hF
 exact Ay z z<|⟨_,z,AD hC1 _⟩
theorem c_Slices_IndexFunc_Lint_int_M_Method_fits_c1 {w0:World} (a1:(List Int)) (u1:Value) (g1:RO [] w0 u1 a1) (pb1:Nat) (ax1:Int) (g2:ROAt [] w0 pb1 0 ax1) (rr:Int) (hF:Slices.IndexFunc_Lint_int_M_Method_fits_c1 a1 ax1=some rr) :
 Calls Tryz.prog 197 [u1,(.func (.func 199) #[] #[(ptr pb1 0)])].toArray w0 fun e w'=>∃v,e=.returned v∧Res w0 rr v w':=by
 refine Aw CF z z ?_
 have hC0:=A1 w0
 unfold Slices.IndexFunc_Lint_int_M_Method_fits_c1 at hF
 refine Ac<|Ae z z<|Ab<|A0<|Ac<|Af z z<|AL Ag g1 z z<|Af z z<|Ab<|be hF fun r1 hr1 hF=>Bf (fun l w=>.inl ()=r1∧l=[]∧Below w0.heap.size w0 w∧Ctx [] w0 w []) ?_ ?_
 ·refine AB<|wS (l':=[(0,u1),(1,(.func (.func 199) #[] #[(ptr pb1 0)])),(7,(I (List.length a1:Int))),(8,(I 0))]) ⟨z,z,z,z,Ah⟩<|Bo (fun k l w=>∃x1:Int,l=[(0,u1),(1,(.func (.func 199) #[] #[(ptr pb1 0)])),(7,(I (List.length a1:Int))),(8,(I x1))]∧Below w0.heap.size w0 w∧Ctx [] w0 w []∧Slices.IndexFunc_Lint_int_M_Method_fits_c1_l1 a1 ax1 k x1=some r1) FUEL ⟨0,z,(Am _ _),hC0,hr1⟩<|?_
  clear hr1
  rintro k1 _ w1 ⟨x1,rfl,hB1,hC1,hL1⟩
  cases k1 with
  | zero=>rw [Slices.IndexFunc_Lint_int_M_Method_fits_c1_l1] at hL1; cases hL1
  | succ k1 =>
   rw [Slices.IndexFunc_Lint_int_M_Method_fits_c1_l1] at hL1
   refine Ac<|AW z z z<|Ab<|A0<|A7 z (fun hc1=>?_) (fun hc1=>?_)
   ·replace hL1:=A9 hL1 hc1
    refine A6<|Aj<|A0<|AB<|Ac<|Af z z<|Ae z z<|Ab<|Ac<|Af z z<|Af z z<|Af z z<|be hL1 fun x2 hx1 hL1=>AE Ag ty3 g1 hx1 z z z fun b1 o1 h1=>AH ty3 h1 hC1.keep z z fun v1 h2=>?_
    obtain rfl:=By h2
    refine be hL1 fun x3 hr2 hL1=>BQ (cap:=[(ptr pb1 0)]) Tryz.call199 z z z (c_M_Method_fits_c1 x2 pb1 ax1 (g2.now hC1.keep) x3 hr2) fun _ w2 hv1=>?_
    obtain ⟨rfl,hB2⟩:=BR hv1
    have hC2:=hC1.grow hB2
    refine Ab<|A7 z (fun hc2=>?_) (fun hc2=>?_)
    ·replace hL1:=A9 hL1 hc2
     refine Ac<|Af z z<|Ae z z<|Ab<|AC<|AU<|Ar<|Ar<|AU<|Ar<|Ar<|?_
     obtain rfl:=Aa hL1
     dsimp only at hF
     obtain rfl:=Aa hF
     exact Ay z z<|⟨_,z,Bk hC2 _⟩
    replace hL1:=AA hL1 hc2
    exact A6<|AJ<|Aj<|AX<|Be z z z<|Af z z<|Ab<|An (l':=[(0,u1),(1,(.func (.func 199) #[] #[(ptr pb1 0)])),(7,(I (List.length a1:Int))),(8,(I (w64 (x1+1))))]) ⟨z,z,z,z,Ah⟩<|⟨k1,Az _,w64 (x1+1),z,((Ap hB1).then hB2).below,hC2,hL1⟩
   replace hL1:=AA hL1 hc1
   refine Bm (A2 (A2 (AT ?_)))
   obtain rfl:=Aa hL1
   exact An (l':=[]) Ah<|⟨z,z,(Ap hB1).below,hC1⟩
 rintro l2 _ w3 hs2 ⟨rfl,rfl,hB3,hC3⟩
 try dsimp only at hF
 refine AO hs2 ?_
 clear hs2
 refine Ac<|Ae z z<|Ab<|AC<|?_
 obtain rfl:=Aa hF
 exact Ay z z<|⟨_,z,Bk hC3 _⟩
theorem c_Slices_ContainsFunc_Lint_int_M_Method_fits_c1 {w0:World} (a1:(List Int)) (u1:Value) (g1:RO [] w0 u1 a1) (pb1:Nat) (ax1:Int) (g2:ROAt [] w0 pb1 0 ax1) (rr:Bool) (hF:Slices.ContainsFunc_Lint_int_M_Method_fits_c1 a1 ax1=some rr) :
 Calls Tryz.prog 153 [u1,(.func (.func 199) #[] #[(ptr pb1 0)])].toArray w0 fun e w'=>∃v,e=.returned v∧Res w0 rr v w':=by
 refine Aw CG z z ?_
 have hC0:=A1 w0
 unfold Slices.ContainsFunc_Lint_int_M_Method_fits_c1 at hF
 refine Ac<|Ae z z<|Ab<|Ac<|Af z z<|Af z z<|be hF fun x1 hr1 hF=>ci CH z z (c_Slices_IndexFunc_Lint_int_M_Method_fits_c1 a1 u1 (g1.now hC0.keep) pb1 ax1 (g2.now hC0.keep) x1 hr1) fun w1 hB1=>have hC1:=hC0.grow hB1;Cu z z z<|Ae z z<|Ab<|AC<|?_
 obtain rfl:=Aa hF
 exact Ay z z<|⟨_,z,AD hC1 _⟩
theorem c_M_Method_fits {w0:World} (a1:(Int × (List Int) × Int × Int × Int)) (u1:Value) (g1:RO [] w0 u1 a1.2.1) (a2:Int) (rr:Bool) (hF:M.Method_fits a1 a2=some rr) :
 Calls Tryz.prog 157 [(.agg #[(I a1.1),u1,(I a1.2.2.1),(I a1.2.2.2.1),(I a1.2.2.2.2)]),(I a2)].toArray w0 fun e w'=>∃v,e=.returned v∧Res w0 rr v w':=by
 refine Aw Tryz.func157 z z ?_
 have hC0:=A1 w0
 unfold M.Method_fits at hF
 refine Ac<|Bb (cs:=[(I a1.1),u1,(I a1.2.2.1),(I a1.2.2.2.1),(I a1.2.2.2.2)]) hC0 z z z fun b1 w1 hC1 hB1 hN1=>Bb (cs:=[(I a2)]) hC1 z z z fun b2 w2 hC2 hB2 hN2=>Ae z z<|Ab<|be hF fun r1 hr1 hF=>BH (fun l w=>∃x1:Bool,x1=r1∧l=[(4,(.bool x1))]∧Below w2.heap.size w2 w∧Ctx [] w0 w []) ?_ ?_
 ·refine AX<|fd AK Au z z z z<|Al hC2 1 z z At z z<|be hr1 fun x2 hr2 hr1=>cb Tryz.call198 z z (c_M_ascending a1.2.1 u1 (g1.now hC2.keep) x2 hr2) fun w4 hB4=>have hC4:=hC2.grow hB4;Af z z<|Bz (fun hc1=>?_) (fun hc1=>?_)
  ·replace hr1:=A9 hr1 hc1
   refine Ak z z<|fd AK Au z z z z<|Ak z z<|Al hC4 1 z z At z z<|Ak z z<|BS z z<|be hr1 fun x3 hr3 hr1=>Ak z z<|cb CI z z (c_Slices_ContainsFunc_Lint_int_M_Method_fits_c1 a1.2.1 u1 (g1.now hC4.keep) b2 a2 (hC4.boxAt 0 z repw_int) x3 hr3) fun w5 hB5=>have hC5:=hC4.grow hB5;Ak z z<|Bw z z<|Ba z z z<|Af z z<|Bz (fun hc2=>?_) (fun hc2=>?_)
   ·replace hr1:=A9 hr1 hc2
    refine Ak z z<|fd AK A5 z z z z<|Ak z z<|Al hC5 1 z z AV z z<|be hr1 fun x4 hr4 hr1=>Ak z z<|cb BY z z (c_M_within a1.2.2.1 0 9 x4 hr4) fun w6 hB6=>have hC6:=hC5.grow hB6;Ba z z z<|Af z z<|Bz (fun hc3=>?_) (fun hc3=>?_)
    ·replace hr1:=A9 hr1 hc3
     refine Ak z z<|fd AK A5 z z z z<|Ak z z<|Al hC6 1 z z AV z z<|be hr1 fun x5 hr5 hr1=>Ak z z<|cb Tryz.call200 z z (c_M_isCost a1.2.2.2.1 x5 hr5) fun w7 hB7=>have hC7:=hC6.grow hB7;Ba z z z<|Af z z<|Bz (fun hc4=>?_) (fun hc4=>?_)
     ·replace hr1:=A9 hr1 hc4
      refine Ak z z<|fd AK A5 z z z z<|Ak z z<|Al hC7 1 z z AV z z<|be hr1 fun x6 hr6 hr1=>Ak z z<|cb BY z z (c_M_within a1.2.2.2.2 1 99 x6 hr6) fun w9 hB8=>have hC8:=hC7.grow hB8;Ba z z z<|Ae z z<|Ab<|?_
      obtain rfl:=Aa hr1
      have hC9:=hC8.h0
      exact An (l':=[(4,(.bool x6))]) ⟨z,Ah⟩<|⟨x6,z,z,(((((Ap hB4).then hB5).then hB6).then hB7).then hB8).below,hC9⟩
     replace hr1:=AA hr1 hc4
     refine gs z z z z<|gs z z z z<|gs z z z z<|AY z z z<|Ae z z<|Ab<|?_
     obtain rfl:=Aa hr1
     have hC10:=hC7.h0
     exact An (l':=[(4,(.bool false))]) ⟨z,Ah⟩<|⟨false,z,z,((((Ap hB4).then hB5).then hB6).then hB7).below,hC10⟩
    replace hr1:=AA hr1 hc3
    refine gs z z z z<|gs z z z z<|gs z z z z<|AY z z z<|Af z z<|gs z z z z<|gs z z z z<|gs z z z z<|AY z z z<|Ae z z<|Ab<|?_
    obtain rfl:=Aa hr1
    have hC11:=hC6.h0
    exact An (l':=[(4,(.bool false))]) ⟨z,Ah⟩<|⟨false,z,z,(((Ap hB4).then hB5).then hB6).below,hC11⟩
   replace hr1:=AA hr1 hc2
   refine gs z z z z<|gs z z z z<|gs z z z z<|AY z z z<|Af z z<|gs z z z z<|gs z z z z<|gs z z z z<|AY z z z<|Af z z<|gs z z z z<|gs z z z z<|gs z z z z<|AY z z z<|Ae z z<|Ab<|?_
   obtain rfl:=Aa hr1
   have hC12:=hC5.h0
   exact An (l':=[(4,(.bool false))]) ⟨z,Ah⟩<|⟨false,z,z,((Ap hB4).then hB5).below,hC12⟩
  replace hr1:=AA hr1 hc1
  refine gs z z z z<|gs z z z z<|gs z z z z<|gs z z z z<|gs z z z z<|AY z z z<|Af z z<|gs z z z z<|gs z z z z<|gs z z z z<|AY z z z<|Af z z<|gs z z z z<|gs z z z z<|gs z z z z<|AY z z z<|Af z z<|gs z z z z<|gs z z z z<|gs z z z z<|AY z z z<|Ae z z<|Ab<|?_
  obtain rfl:=Aa hr1
  have hC13:=hC4.h0
  exact An (l':=[(4,(.bool false))]) ⟨z,Ah⟩<|⟨false,z,z,(Ap hB4).below,hC13⟩
 rintro _ w3 ⟨x1,rfl,rfl,hB3,hC3⟩
 try dsimp only at hF
 refine AC ?_
 obtain rfl:=Aa hF
 exact Ay z z<|⟨_,z,AD hC3 _⟩
theorem c_M_IsMethod {w0:World} (a1:(List Int)) (u1:Value) (g1:RO [] w0 u1 a1) (a2:(Int × (List Int) × Int × Int × Int)) (u2:Value) (g2:RO [] w0 u2 a2.2.1) (rr:Bool) (hF:M.IsMethod a1 a2=some rr) :
 Calls Tryz.prog 101 [u1,(.agg #[(I a2.1),u2,(I a2.2.2.1),(I a2.2.2.2.1),(I a2.2.2.2.2)])].toArray w0 fun e w'=>∃v,e=.returned v∧Res w0 rr v w':=by
 refine Aw Tryz.func101 z z ?_
 have hC0:=A1 w0
 unfold M.IsMethod at hF
 refine Ac<|Bb (cs:=[(I a2.1),u2,(I a2.2.2.1),(I a2.2.2.2.1),(I a2.2.2.2.2)]) hC0 z z z fun b1 w1 hC1 hB1 hN1=>Ae z z<|Ab<|be hF fun r1 hr1 hF=>BH (fun l w=>∃x1:Bool,x1=r1∧l=[(4,(.bool x1))]∧Below w1.heap.size w1 w∧Ctx [] w0 w []) ?_ ?_
 ·refine W_drawn 14 z hmix fun w3 hB3=>have hC3:=hC1.grow hB3;tm 0 z z z<|tf 1 AK A5 z z z z z<|oe 2 z<|Al hC3 0 z z AV z z<|Ab<|be hr1 fun x2 hr2 hr1=>oe 3 z<|cb Tryz.call156 z z (c_M_hasRel a1 u1 (g1.now hC3.keep) a2.1 x2 hr2) fun w4 hB4=>have hC4:=hC3.grow hB4;Ab<|tm 4 z z z<|BP (fun hc1=>?_) (fun hc1=>?_)
  ·replace hr1:=A9 hr1 hc1
   refine tn 6 z z z z z<|tg 7 z z z z (BG AK z z (fun w=>⟨_,A5 w⟩) z)<|Ak z z<|fd AK A5 z z z z<|Ab<|be hr1 fun x3 hx1 hr1=>wAS (l':=[(0,u1),(1,(.agg #[(I a2.1),u2,(I a2.2.2.1),(I a2.2.2.2.1),(I a2.2.2.2.2)])),(3,(ptr b1 0)),(4,(.bool false)),(5,u1),(6,(ptr b1 0)),(7,(I a2.1)),(8,(.bool x2)),(9,(.bool true)),(11,u1),(12,(ptr b1 0))]) ⟨z,z,z,z,z,z,z,z,z,z,z,Ah⟩<|Bq [⟨5,[],fun vs=>Bg (.agg #[(I a2.1),u2,(I a2.2.2.1),(I a2.2.2.2.1),(I a2.2.2.2.2)]),[]⟩,⟨8,[],fun vs=>Bg (I a2.1),[]⟩,⟨9,[],fun vs=>Cj [] w0 x3,[]⟩,⟨10,[],fun vs=>Bg (I x3),[]⟩] [[],[],[8],[9]] 3 z (by kernel_rfl) (by kernel_rfl) z ?_ ?_
   ·refine Aq z ?_ ?_
    ·intro w5 hB5
     refine Ax<|⟨_,z,?_⟩
     exact Ak z z<|A4 [(I a2.1),u2,(I a2.2.2.1),(I a2.2.2.2.1),(I a2.2.2.2.2)] (hC4.grow hB5) 0 z z z Cx BT z z<|Ab<|A3 (Am _ _) z z ⟨z,z⟩
    refine Aq z ?_ ?_
    ·intro w5 hB5
     refine Ax<|⟨_,z,?_⟩
     exact Ak z z<|Al (hC4.grow hB5) 0 z z AV z z<|Ab<|A3 (Am _ _) z z ⟨z,z⟩
    refine Aq z ?_ ?_
    ·intro w5 hB5
     refine AN z z z ?_
     rintro _ _ ⟨rfl,rfl⟩ _
     refine Ax<|⟨_,z,?_⟩
     exact Ak z z<|AE Ag ty3 g1 hx1 z z z fun b2 o1 h1=>Ab<|A3 (Am _ _) z z ⟨z,_,_,z,h1⟩
    refine Aq z ?_ ?_
    ·intro w5 hB5
     refine AN z z z ?_
     rintro _ _ ⟨rfl,b2,o1,rfl,h1⟩ _
     refine Ax<|⟨_,z,?_⟩
     refine Ak z z<|AH ty3 h1 (hC4.keep.then hB5) z z fun v1 h2=>?_
     obtain rfl:=By h2
     exact Ab<|A3 (Am _ _) z z ⟨z,z⟩
    exact Bl
   intro w6 hB6
   refine Av z z z ?_
   rintro _ _ ⟨rfl,rfl⟩
   refine Av z z z ?_
   rintro _ _ ⟨rfl,rfl⟩
   refine Av z z z ?_
   rintro _ _ ⟨rfl,b2,o1,rfl,h1⟩
   refine Av z z z ?_
   rintro _ _ ⟨rfl,rfl⟩
   refine Bv fun hn1 hb1=>have hC5:=hC4.grow hB6;be hr1 fun x4 hr3 hr1=>oe 11 z<|Ak z z<|cb Tryz.call157 z z (c_M_Method_fits (a2.1,a2.2.1,a2.2.2.1,a2.2.2.2.1,a2.2.2.2.2) u2 (g2.now hC5.keep) x3 x4 hr3) fun w7 hB7=>have hC6:=hC5.grow hB7;Ab<|tp 12 z z z z<|ta 13 z z z<|dn<|?_
   obtain rfl:=Aa hr1
   have hC7:=hC6.h0
   exact An (l':=[(4,(.bool x4))]) ⟨z,Ah⟩<|⟨x4,z,z,((((Ap hB3).then hB4).then hB6).then hB7).below,hC7⟩
  replace hr1:=AA hr1 hc1
  refine sk 5 z z z z z<|sk 6 z z z z z<|sk 7 z z z z z<|sk 8 z z z z z<|sk 9 z z z z z<|sk 10 z z z z z<|sk 11 z z z z z<|tq 12 z z z z<|ta 13 z z z<|dn<|?_
  obtain rfl:=Aa hr1
  have hC8:=hC4.h0
  exact An (l':=[(4,(.bool false))]) ⟨z,Ah⟩<|⟨false,z,z,((Ap hB3).then hB4).below,hC8⟩
 rintro _ w2 ⟨x1,rfl,rfl,hB2,hC2⟩
 try dsimp only at hF
 refine AC ?_
 obtain rfl:=Aa hF
 exact Ay z z<|⟨_,z,AD hC2 _⟩
theorem c_M_AreMethods_c1 {w0:World} (a1:(Int × (List Int) × Int × Int × Int)) (u1:Value) (g1:RO [] w0 u1 a1.2.1) (pb1:Nat) (ax1:(List Int)) (g2:ROAt [] w0 pb1 0 ax1) (rr:Bool) (hF:M.AreMethods_c1 a1 ax1=some rr) :
 Calls Tryz.prog 100 [(.agg #[(I a1.1),u1,(I a1.2.2.1),(I a1.2.2.2.1),(I a1.2.2.2.2)]),(ptr pb1 0)].toArray w0 fun e w'=>∃v,e=.returned v∧Res w0 rr v w':=by
 refine Aw Tryz.func100 z z ?_
 have hC0:=A1 w0
 unfold M.AreMethods_c1 at hF
 refine Ac<|Bb (cs:=[(I a1.1),u1,(I a1.2.2.1),(I a1.2.2.2.1),(I a1.2.2.2.2)]) hC0 z z z fun b1 w1 hC1 hB1 hN1=>Ae z z<|Ab<|Ac<|AH ty24 g2 hC1.keep z z fun v1 h1=>A4 [(I a1.1),u1,(I a1.2.2.1),(I a1.2.2.2.1),(I a1.2.2.2.2)] hC1 0 z z z Cx BT z z<|be hF fun x1 hr1 hF=>cb Tryz.call101 z z (c_M_IsMethod ax1 v1 (h1.now hC1.keep) (a1.1,a1.2.1,a1.2.2.1,a1.2.2.2.1,a1.2.2.2.2) u1 (g1.now hC1.keep) x1 hr1) fun w2 hB2=>have hC2:=hC1.grow hB2;Bw z z<|Ae z z<|Ab<|AC<|?_
 obtain rfl:=Aa hF
 exact Ay z z<|⟨_,z,AD hC2 _⟩
theorem c_Slices_IndexFunc_Limpl_Method_impl_Method_M_AreMethods_c1 {w0:World} (a1:(List (Int × (List Int) × Int × Int × Int))) (u1:Value) (g1:RO [] w0 u1 a1) (pb1:Nat) (ax1:(List Int)) (g2:ROAt [] w0 pb1 0 ax1) (rr:Int) (hF:Slices.IndexFunc_Limpl_Method_impl_Method_M_AreMethods_c1 a1 ax1=some rr) :
 Calls Tryz.prog 155 [u1,(.func (.func 100) #[] #[(ptr pb1 0)])].toArray w0 fun e w'=>∃v,e=.returned v∧Res w0 rr v w':=by
 refine Aw Tryz.func155 z z ?_
 have hC0:=A1 w0
 unfold Slices.IndexFunc_Limpl_Method_impl_Method_M_AreMethods_c1 at hF
 refine Ac<|Ae z z<|Ab<|A0<|Ac<|Af z z<|AL Bi g1 z z<|Af z z<|Ab<|be hF fun r1 hr1 hF=>Bf (fun l w=>.inl ()=r1∧l=[]∧Below w0.heap.size w0 w∧Ctx [] w0 w []) ?_ ?_
 ·refine AB<|wS (l':=[(0,u1),(1,(.func (.func 100) #[] #[(ptr pb1 0)])),(7,(I (List.length a1:Int))),(8,(I 0))]) ⟨z,z,z,z,Ah⟩<|Bo (fun k l w=>∃x1:Int,l=[(0,u1),(1,(.func (.func 100) #[] #[(ptr pb1 0)])),(7,(I (List.length a1:Int))),(8,(I x1))]∧Below w0.heap.size w0 w∧Ctx [] w0 w []∧Slices.IndexFunc_Limpl_Method_impl_Method_M_AreMethods_c1_l1 a1 ax1 k x1=some r1) FUEL ⟨0,z,(Am _ _),hC0,hr1⟩<|?_
  clear hr1
  rintro k1 _ w1 ⟨x1,rfl,hB1,hC1,hL1⟩
  cases k1 with
  | zero=>rw [Slices.IndexFunc_Limpl_Method_impl_Method_M_AreMethods_c1_l1] at hL1; cases hL1
  | succ k1 =>
   rw [Slices.IndexFunc_Limpl_Method_impl_Method_M_AreMethods_c1_l1] at hL1
   refine Ac<|AW z z z<|Ab<|A0<|A7 z (fun hc1=>?_) (fun hc1=>?_)
   ·replace hL1:=A9 hL1 hc1
    refine A6<|Aj<|A0<|AB<|Ac<|Af z z<|Ae z z<|Ab<|Ac<|Af z z<|Af z z<|Af z z<|be hL1 fun x2 hx1 hL1=>AE Bi ty110 g1 hx1 z z z fun b1 o1 h1=>AH ty110 h1 hC1.keep z z fun v1 h2=>?_
    obtain ⟨v2,rfl,h3⟩:=CX h2
    refine be hL1 fun x3 hr2 hL1=>BQ (cap:=[(ptr pb1 0)]) Tryz.call100 z z z (c_M_AreMethods_c1 x2 v2 (h3.now hC1.keep) pb1 ax1 (g2.now hC1.keep) x3 hr2) fun _ w2 hv1=>?_
    obtain ⟨rfl,hB2⟩:=BR hv1
    have hC2:=hC1.grow hB2
    refine Ab<|A7 z (fun hc2=>?_) (fun hc2=>?_)
    ·replace hL1:=A9 hL1 hc2
     refine Ac<|Af z z<|Ae z z<|Ab<|AC<|AU<|Ar<|Ar<|AU<|Ar<|Ar<|?_
     obtain rfl:=Aa hL1
     dsimp only at hF
     obtain rfl:=Aa hF
     exact Ay z z<|⟨_,z,Bk hC2 _⟩
    replace hL1:=AA hL1 hc2
    exact A6<|AJ<|Aj<|AX<|Be z z z<|Af z z<|Ab<|An (l':=[(0,u1),(1,(.func (.func 100) #[] #[(ptr pb1 0)])),(7,(I (List.length a1:Int))),(8,(I (w64 (x1+1))))]) ⟨z,z,z,z,Ah⟩<|⟨k1,Az _,w64 (x1+1),z,((Ap hB1).then hB2).below,hC2,hL1⟩
   replace hL1:=AA hL1 hc1
   refine Bm (A2 (A2 (AT ?_)))
   obtain rfl:=Aa hL1
   exact An (l':=[]) Ah<|⟨z,z,(Ap hB1).below,hC1⟩
 rintro l2 _ w3 hs2 ⟨rfl,rfl,hB3,hC3⟩
 try dsimp only at hF
 refine AO hs2 ?_
 clear hs2
 refine Ac<|Ae z z<|Ab<|AC<|?_
 obtain rfl:=Aa hF
 exact Ay z z<|⟨_,z,Bk hC3 _⟩
theorem c_Slices_ContainsFunc_Limpl_Method_impl_Method_M_AreMethods_c1 {w0:World} (a1:(List (Int × (List Int) × Int × Int × Int))) (u1:Value) (g1:RO [] w0 u1 a1) (pb1:Nat) (ax1:(List Int)) (g2:ROAt [] w0 pb1 0 ax1) (rr:Bool) (hF:Slices.ContainsFunc_Limpl_Method_impl_Method_M_AreMethods_c1 a1 ax1=some rr) :
 Calls Tryz.prog 99 [u1,(.func (.func 100) #[] #[(ptr pb1 0)])].toArray w0 fun e w'=>∃v,e=.returned v∧Res w0 rr v w':=by
 refine Aw Tryz.func99 z z ?_
 have hC0:=A1 w0
 unfold Slices.ContainsFunc_Limpl_Method_impl_Method_M_AreMethods_c1 at hF
 refine Ac<|Ae z z<|Ab<|Ac<|Af z z<|Af z z<|be hF fun x1 hr1 hF=>ci Tryz.call155 z z (c_Slices_IndexFunc_Limpl_Method_impl_Method_M_AreMethods_c1 a1 u1 (g1.now hC0.keep) pb1 ax1 (g2.now hC0.keep) x1 hr1) fun w1 hB1=>have hC1:=hC0.grow hB1;Cu z z z<|Ae z z<|Ab<|AC<|?_
 obtain rfl:=Aa hF
 exact Ay z z<|⟨_,z,AD hC1 _⟩
theorem c_M_AreMethods {w0:World} (a1:(List Int)) (u1:Value) (g1:RO [] w0 u1 a1) (a2:(List (Int × (List Int) × Int × Int × Int))) (u2:Value) (g2:RO [] w0 u2 a2) (rr:Bool) (hF:M.AreMethods a1 a2=some rr) :
 Calls Tryz.prog 56 [u1,u2].toArray w0 fun e w'=>∃v,e=.returned v∧Res w0 rr v w':=by
 refine Aw Tryz.func56 z z ?_
 have hC0:=A1 w0
 unfold M.AreMethods at hF
 refine Ac<|Bb (cs:=[u1]) hC0 (ro_cells g1) z z fun b1 w1 hC1 hB1 hN1=>Ae z z<|Ab<|be hF fun r1 hr1 hF=>BH (fun l w=>∃x1:Bool,x1=r1∧l=[(4,(.bool x1))]∧Below w1.heap.size w1 w∧Ctx [] w0 w []) ?_ ?_
 ·refine AX<|Al hC1 0 z z At z z<|be hr1 fun x2 hr2 hr1=>cb Dj z z (c_M_IsSchema a1 u1 (g1.now hC1.keep) x2 hr2) fun w3 hB3=>have hC3:=hC1.grow hB3;Af z z<|Bz (fun hc1=>?_) (fun hc1=>?_)
  ·replace hr1:=A9 hr1 hc1
   refine Ak z z<|Af z z<|Ak z z<|AL Bi g2 z z<|Ak z z<|CQ z z z<|Ba z z z<|Af z z<|Bz (fun hc2=>?_) (fun hc2=>?_)
   ·replace hr1:=A9 hr1 hc2
    refine Ak z z<|Af z z<|Ak z z<|BS z z<|be hr1 fun x3 hr3 hr1=>Ak z z<|cb Tryz.call99 z z (c_Slices_ContainsFunc_Limpl_Method_impl_Method_M_AreMethods_c1 a2 u2 (g2.now hC3.keep) b1 a1 (hC3.boxAt 0 z (repw_slice (g1.now hC3.keep))) x3 hr3) fun w4 hB4=>have hC4:=hC3.grow hB4;Ak z z<|Bw z z<|Ba z z z<|Ae z z<|Ab<|?_
    obtain rfl:=Aa hr1
    have hC5:=hC4.h0
    exact An (l':=[(4,(.bool (!x3)))]) ⟨z,Ah⟩<|⟨(!x3),z,z,((Ap hB3).then hB4).below,hC5⟩
   replace hr1:=AA hr1 hc2
   refine gs z z z z<|gs z z z z<|gs z z z z<|gs z z z z<|AY z z z<|Ae z z<|Ab<|?_
   obtain rfl:=Aa hr1
   have hC6:=hC3.h0
   exact An (l':=[(4,(.bool false))]) ⟨z,Ah⟩<|⟨false,z,z,(Ap hB3).below,hC6⟩
  replace hr1:=AA hr1 hc1
  refine gs z z z z<|gs z z z z<|gs z z z z<|AY z z z<|Af z z<|gs z z z z<|gs z z z z<|gs z z z z<|gs z z z z<|AY z z z<|Ae z z<|Ab<|?_
  obtain rfl:=Aa hr1
  have hC7:=hC3.h0
  exact An (l':=[(4,(.bool false))]) ⟨z,Ah⟩<|⟨false,z,z,(Ap hB3).below,hC7⟩
 rintro _ w2 ⟨x1,rfl,rfl,hB2,hC2⟩
 try dsimp only at hF
 refine AC ?_
 obtain rfl:=Aa hF
 exact Ay z z<|⟨_,z,AD hC2 _⟩
theorem c_M_isValue {w0:World} (a1:Int) (rr:Bool) (hF:M.isValue a1=some rr) :
 Calls Tryz.prog 222 [(I a1)].toArray w0 fun e w'=>∃v,e=.returned v∧Res w0 rr v w':=by
 refine Aw Tryz.func222 z z ?_
 have hC0:=A1 w0
 unfold M.isValue at hF
 refine Ac<|Ae z z<|Ab<|Ac<|Af z z<|be hF fun x1 hr1 hF=>cb BY z z (c_M_within a1 0 9 x1 hr1) fun w1 hB1=>have hC1:=hC0.grow hB1;Ae z z<|Ab<|AC<|?_
 obtain rfl:=Aa hF
 exact Ay z z<|⟨_,z,AD hC1 _⟩
theorem c_M_areValues_c1 {w0:World} (a1:Int) (rr:Bool) (hF:M.areValues_c1 a1=some rr) :
 Calls Tryz.prog 229 [(I a1)].toArray w0 fun e w'=>∃v,e=.returned v∧Res w0 rr v w':=by
 refine Aw Tryz.func229 z z ?_
 have hC0:=A1 w0
 unfold M.areValues_c1 at hF
 refine Ac<|Ae z z<|Ab<|Ac<|Af z z<|be hF fun x1 hr1 hF=>cb Tryz.call222 z z (c_M_isValue a1 x1 hr1) fun w1 hB1=>have hC1:=hC0.grow hB1;Bw z z<|Ae z z<|Ab<|AC<|?_
 obtain rfl:=Aa hF
 exact Ay z z<|⟨_,z,AD hC1 _⟩
theorem c_Slices_IndexFunc_Lint_int_M_areValues_c1 {w0:World} (a1:(List Int)) (u1:Value) (g1:RO [] w0 u1 a1) (rr:Int) (hF:Slices.IndexFunc_Lint_int_M_areValues_c1 a1=some rr) :
 Calls Tryz.prog 197 [u1,(.func (.func 229) #[] #[])].toArray w0 fun e w'=>∃v,e=.returned v∧Res w0 rr v w':=by
 refine Aw CF z z ?_
 have hC0:=A1 w0
 unfold Slices.IndexFunc_Lint_int_M_areValues_c1 at hF
 refine Ac<|Ae z z<|Ab<|A0<|Ac<|Af z z<|AL Ag g1 z z<|Af z z<|Ab<|be hF fun r1 hr1 hF=>Bf (fun l w=>.inl ()=r1∧l=[]∧Below w0.heap.size w0 w∧Ctx [] w0 w []) ?_ ?_
 ·refine AB<|wS (l':=[(0,u1),(1,(.func (.func 229) #[] #[])),(7,(I (List.length a1:Int))),(8,(I 0))]) ⟨z,z,z,z,Ah⟩<|Bo (fun k l w=>∃x1:Int,l=[(0,u1),(1,(.func (.func 229) #[] #[])),(7,(I (List.length a1:Int))),(8,(I x1))]∧Below w0.heap.size w0 w∧Ctx [] w0 w []∧Slices.IndexFunc_Lint_int_M_areValues_c1_l1 a1 k x1=some r1) FUEL ⟨0,z,(Am _ _),hC0,hr1⟩<|?_
  clear hr1
  rintro k1 _ w1 ⟨x1,rfl,hB1,hC1,hL1⟩
  cases k1 with
  | zero=>rw [Slices.IndexFunc_Lint_int_M_areValues_c1_l1] at hL1; cases hL1
  | succ k1 =>
   rw [Slices.IndexFunc_Lint_int_M_areValues_c1_l1] at hL1
   refine Ac<|AW z z z<|Ab<|A0<|A7 z (fun hc1=>?_) (fun hc1=>?_)
   ·replace hL1:=A9 hL1 hc1
    refine A6<|Aj<|A0<|AB<|Ac<|Af z z<|Ae z z<|Ab<|Ac<|Af z z<|Af z z<|Af z z<|be hL1 fun x2 hx1 hL1=>AE Ag ty3 g1 hx1 z z z fun b1 o1 h1=>AH ty3 h1 hC1.keep z z fun v1 h2=>?_
    obtain rfl:=By h2
    refine be hL1 fun x3 hr2 hL1=>BQ (cap:=[]) Tryz.call229 z z z (c_M_areValues_c1 x2 x3 hr2) fun _ w2 hv1=>?_
    obtain ⟨rfl,hB2⟩:=BR hv1
    have hC2:=hC1.grow hB2
    refine Ab<|A7 z (fun hc2=>?_) (fun hc2=>?_)
    ·replace hL1:=A9 hL1 hc2
     refine Ac<|Af z z<|Ae z z<|Ab<|AC<|AU<|Ar<|Ar<|AU<|Ar<|Ar<|?_
     obtain rfl:=Aa hL1
     dsimp only at hF
     obtain rfl:=Aa hF
     exact Ay z z<|⟨_,z,Bk hC2 _⟩
    replace hL1:=AA hL1 hc2
    exact A6<|AJ<|Aj<|AX<|Be z z z<|Af z z<|Ab<|An (l':=[(0,u1),(1,(.func (.func 229) #[] #[])),(7,(I (List.length a1:Int))),(8,(I (w64 (x1+1))))]) ⟨z,z,z,z,Ah⟩<|⟨k1,Az _,w64 (x1+1),z,((Ap hB1).then hB2).below,hC2,hL1⟩
   replace hL1:=AA hL1 hc1
   refine Bm (A2 (A2 (AT ?_)))
   obtain rfl:=Aa hL1
   exact An (l':=[]) Ah<|⟨z,z,(Ap hB1).below,hC1⟩
 rintro l2 _ w3 hs2 ⟨rfl,rfl,hB3,hC3⟩
 try dsimp only at hF
 refine AO hs2 ?_
 clear hs2
 refine Ac<|Ae z z<|Ab<|AC<|?_
 obtain rfl:=Aa hF
 exact Ay z z<|⟨_,z,Bk hC3 _⟩
theorem c_Slices_ContainsFunc_Lint_int_M_areValues_c1 {w0:World} (a1:(List Int)) (u1:Value) (g1:RO [] w0 u1 a1) (rr:Bool) (hF:Slices.ContainsFunc_Lint_int_M_areValues_c1 a1=some rr) :
 Calls Tryz.prog 153 [u1,(.func (.func 229) #[] #[])].toArray w0 fun e w'=>∃v,e=.returned v∧Res w0 rr v w':=by
 refine Aw CG z z ?_
 have hC0:=A1 w0
 unfold Slices.ContainsFunc_Lint_int_M_areValues_c1 at hF
 refine Ac<|Ae z z<|Ab<|Ac<|Af z z<|Af z z<|be hF fun x1 hr1 hF=>ci CH z z (c_Slices_IndexFunc_Lint_int_M_areValues_c1 a1 u1 (g1.now hC0.keep) x1 hr1) fun w1 hB1=>have hC1:=hC0.grow hB1;Cu z z z<|Ae z z<|Ab<|AC<|?_
 obtain rfl:=Aa hF
 exact Ay z z<|⟨_,z,AD hC1 _⟩
theorem c_M_areValues {w0:World} (a1:(List Int)) (u1:Value) (g1:RO [] w0 u1 a1) (rr:Bool) (hF:M.areValues a1=some rr) :
 Calls Tryz.prog 219 [u1].toArray w0 fun e w'=>∃v,e=.returned v∧Res w0 rr v w':=by
 refine Aw Tryz.func219 z z ?_
 have hC0:=A1 w0
 unfold M.areValues at hF
 refine Ac<|Ae z z<|Ab<|Ac<|Af z z<|be hF fun x1 hr1 hF=>cb CI z z (c_Slices_ContainsFunc_Lint_int_M_areValues_c1 a1 u1 (g1.now hC0.keep) x1 hr1) fun w1 hB1=>have hC1:=hC0.grow hB1;Bw z z<|Ae z z<|Ab<|AC<|?_
 obtain rfl:=Aa hF
 exact Ay z z<|⟨_,z,AD hC1 _⟩
theorem c_M_IsAccess {w0:World} (a1:(List Int)) (u1:Value) (g1:RO [] w0 u1 a1) (a2:(List (Int × (List Int) × Int × Int × Int))) (u2:Value) (g2:RO [] w0 u2 a2) (a3:(Int × (List Int))) (u3:Value) (g3:RO [] w0 u3 a3.2) (rr:Bool) (hF:M.IsAccess a1 a2 a3=some rr) :
 Calls Tryz.prog 193 [u1,u2,(.agg #[(I a3.1),u3])].toArray w0 fun e w'=>∃v,e=.returned v∧Res w0 rr v w':=by
 refine Aw Tryz.func193 z z ?_
 have hC0:=A1 w0
 unfold M.IsAccess at hF
 refine Ac<|Bb (cs:=[(I a3.1),u3]) hC0 z z z fun b1 w1 hC1 hB1 hN1=>Ae z z<|Ab<|be hF fun r1 hr1 hF=>BH (fun l w=>∃x1:Bool,x1=r1∧l=[(6,(.bool x1))]∧Below w1.heap.size w1 w∧Ctx [] w0 w []) ?_ ?_
 ·refine W_drawn 30 z hmix fun w3 hB3=>have hC3:=hC1.grow hB3;tm 0 z z z<|tm 1 z z z<|be hr1 fun x2 hr2 hr1=>oe 2 z<|cb Tryz.call56 z z (c_M_AreMethods a1 u1 (g1.now hC3.keep) a2 u2 (g2.now hC3.keep) x2 hr2) fun w4 hB4=>have hC4:=hC3.grow hB4;Ab<|tm 3 z z z<|BP (fun hc1=>?_) (fun hc1=>?_)
  ·replace hr1:=A9 hr1 hc1
   refine tg 4 z z z z (BG Bd z z (fun w=>⟨_,A5 w⟩) z)<|Ak z z<|fd Bd A5 z z z z<|Ab<|tn 6 z z z z z<|tg 7 z z z z (fl_len Bi g2 z)<|Ak z z<|AL Bi g2 z z<|Ab<|tg 8 z z z z (Dv z z)<|Ak z z<|Cv z z z<|Ab<|oe 5 z<|Ak z z<|Al hC4 0 z z AV z z<|Ab<|be hr1 fun x3 hr3 hr1=>oe 9 z<|Ak z z<|cb BY z z (c_M_within a3.1 0 (w64 ((List.length a2:Int) - 1)) x3 hr3) fun w5 hB5=>have hC5:=hC4.grow hB5;Ab<|tp 10 z z z z<|tm 11 z z z<|BP (fun hc2=>?_) (fun hc2=>?_)
   ·replace hr1:=A9 hr1 hc2
    refine tg 12 z z z z (BG Bd z z (fun w=>⟨_,Au w⟩) z)<|Ak z z<|fd Bd Au z z z z<|Ab<|tn 15 z z z z z<|tg 16 z z z z (BG Bd z z (fun w=>⟨_,A5 w⟩) z)<|Ak z z<|fd Bd A5 z z z z<|Ab<|be hr1 fun x4 hx1 hr1=>wAS (l':=[(0,u1),(1,u2),(2,(.agg #[(I a3.1),u3])),(5,(ptr b1 0)),(6,(.bool false)),(7,u1),(8,u2),(9,(.bool x2)),(10,(.bool true)),(11,(ptr b1 0)),(12,(I a3.1)),(13,u2),(14,(I (List.length a2:Int))),(15,(I (w64 ((List.length a2:Int) - 1)))),(16,(.bool x3)),(17,(.bool x3)),(18,(.bool true)),(19,(ptr b1 1)),(22,u2),(23,(ptr b1 0))]) ⟨z,z,z,z,z,z,z,z,z,z,z,z,z,z,z,z,z,z,z,z,Ah⟩<|Bq [⟨13,[],fun vs=>Bg u3,[]⟩,⟨14,[],fun vs=>Bg (I (List.length a3.2:Int)),[]⟩,⟨17,[],fun vs=>Bg (I a3.1),[]⟩,⟨18,[],fun vs=>Cj [] w0 x4,[]⟩,⟨19,[],fun vs=>Cj [] w0 x4.2.1,[]⟩,⟨20,[],fun vs=>Cc [] w0 x4.2.1,[]⟩,⟨21,[],fun vs=>Bg (I (List.length x4.2.1:Int)),[]⟩] [[],[13],[],[17],[18],[19],[20]] 8 z (by kernel_rfl) (by kernel_rfl) z ?_ ?_
    ·refine Aq z ?_ ?_
     ·intro w6 hB6
      refine Ax<|⟨_,z,?_⟩
      exact Ak z z<|Al (hC5.grow hB6) 0 z z At z z<|Ab<|A3 (Am _ _) z z ⟨z,z⟩
     refine Aq z ?_ ?_
     ·intro w6 hB6
      refine AN z z z ?_
      rintro _ _ ⟨rfl,rfl⟩ _
      refine Ax<|⟨_,z,?_⟩
      exact Ak z z<|AL Ag g3 z z<|Ab<|A3 (Am _ _) z z ⟨z,z⟩
     refine Aq z ?_ ?_
     ·intro w6 hB6
      refine Ax<|⟨_,z,?_⟩
      exact Ak z z<|Al (hC5.grow hB6) 0 z z AV z z<|Ab<|A3 (Am _ _) z z ⟨z,z⟩
     refine Aq z ?_ ?_
     ·intro w6 hB6
      refine AN z z z ?_
      rintro _ _ ⟨rfl,rfl⟩ _
      refine Ax<|⟨_,z,?_⟩
      exact Ak z z<|AE Bi ty110 g2 hx1 z z z fun b2 o1 h1=>Ab<|A3 (Am _ _) z z ⟨z,_,_,z,h1⟩
     refine Aq z ?_ ?_
     ·intro w6 hB6
      refine AN z z z ?_
      rintro _ _ ⟨rfl,b2,o1,rfl,h1⟩ _
      refine Ax<|⟨_,z,?_⟩
      exact Ak z z<|fd AK Au z z z z<|Ab<|A3 (Am _ _) z z ⟨z,_,_,z,h1.snd.fst⟩
     refine Aq z ?_ ?_
     ·intro w6 hB6
      refine AN z z z ?_
      rintro _ _ ⟨rfl,b3,o2,rfl,h2⟩ _
      refine Ax<|⟨_,z,?_⟩
      exact Ak z z<|AH ty24 h2 (hC5.keep.then hB6) z z fun v1 h3=>Ab<|A3 (Am _ _) z z ⟨z,h3⟩
     refine Aq z ?_ ?_
     ·intro w6 hB6
      refine AN z z z ?_
      rintro v1 _ ⟨rfl,h3⟩ _
      refine Ax<|⟨_,z,?_⟩
      exact Ak z z<|AL Ag h3 z z<|Ab<|A3 (Am _ _) z z ⟨z,z⟩
     exact Bl
    intro w7 hB7
    refine Av z z z ?_
    rintro _ _ ⟨rfl,rfl⟩
    refine Av z z z ?_
    rintro _ _ ⟨rfl,rfl⟩
    refine Av z z z ?_
    rintro _ _ ⟨rfl,rfl⟩
    refine Av z z z ?_
    rintro _ _ ⟨rfl,b2,o1,rfl,h1⟩
    refine Av z z z ?_
    rintro _ _ ⟨rfl,b3,o2,rfl,h2⟩
    refine Av z z z ?_
    rintro v1 _ ⟨rfl,h3⟩
    refine Av z z z ?_
    rintro _ _ ⟨rfl,rfl⟩
    refine Bv fun hn1 hb1=>have hC6:=hC5.grow hB7;tg 22 z z z z (Dy z z)<|Ak z z<|Ca z z z<|Ab<|tp 23 z z z z<|tm 24 z z z<|BP (fun hc3=>?_) (fun hc3=>?_)
    ·replace hr1:=A9 hr1 hc3
     refine tg 25 z z z z (BG Bd z z (fun w=>⟨_,Au w⟩) z)<|Ak z z<|fd Bd Au z z z z<|Ab<|oe 26 z<|Ak z z<|Al hC6 0 z z At z z<|Ab<|be hr1 fun x5 hr4 hr1=>oe 27 z<|Ak z z<|cb Tryz.call219 z z (c_M_areValues a3.2 u3 (g3.now hC6.keep) x5 hr4) fun w9 hB8=>have hC7:=hC6.grow hB8;Ab<|tp 28 z z z z<|ta 29 z z z<|dn<|?_
     obtain rfl:=Aa hr1
     have hC8:=hC7.h0
     exact An (l':=[(6,(.bool x5))]) ⟨z,Ah⟩<|⟨x5,z,z,(((((Ap hB3).then hB4).then hB5).then hB7).then hB8).below,hC8⟩
    replace hr1:=AA hr1 hc3
    refine sk 25 z z z z z<|sk 26 z z z z z<|sk 27 z z z z z<|tq 28 z z z z<|ta 29 z z z<|dn<|?_
    obtain rfl:=Aa hr1
    have hC9:=hC6.h0
    exact An (l':=[(6,(.bool false))]) ⟨z,Ah⟩<|⟨false,z,z,((((Ap hB3).then hB4).then hB5).then hB7).below,hC9⟩
   replace hr1:=AA hr1 hc2
   refine sk 12 z z z z z<|sk 13 z z z z z<|sk 14 z z z z z<|sk 15 z z z z z<|sk 16 z z z z z<|sk 17 z z z z z<|sk 18 z z z z z<|sk 19 z z z z z<|sk 20 z z z z z<|sk 21 z z z z z<|sk 22 z z z z z<|tq 23 z z z z<|tm 24 z z z<|sk 25 z z z z z<|sk 26 z z z z z<|sk 27 z z z z z<|tq 28 z z z z<|ta 29 z z z<|dn<|?_
   obtain rfl:=Aa hr1
   have hC10:=hC5.h0
   exact An (l':=[(6,(.bool false))]) ⟨z,Ah⟩<|⟨false,z,z,(((Ap hB3).then hB4).then hB5).below,hC10⟩
  replace hr1:=AA hr1 hc1
  refine sk 4 z z z z z<|sk 5 z z z z z<|sk 6 z z z z z<|sk 7 z z z z z<|sk 8 z z z z z<|sk 9 z z z z z<|tq 10 z z z z<|tm 11 z z z<|sk 12 z z z z z<|sk 13 z z z z z<|sk 14 z z z z z<|sk 15 z z z z z<|sk 16 z z z z z<|sk 17 z z z z z<|sk 18 z z z z z<|sk 19 z z z z z<|sk 20 z z z z z<|sk 21 z z z z z<|sk 22 z z z z z<|tq 23 z z z z<|tm 24 z z z<|sk 25 z z z z z<|sk 26 z z z z z<|sk 27 z z z z z<|tq 28 z z z z<|ta 29 z z z<|dn<|?_
  obtain rfl:=Aa hr1
  have hC11:=hC4.h0
  exact An (l':=[(6,(.bool false))]) ⟨z,Ah⟩<|⟨false,z,z,((Ap hB3).then hB4).below,hC11⟩
 rintro _ w2 ⟨x1,rfl,rfl,hB2,hC2⟩
 try dsimp only at hF
 refine AC ?_
 obtain rfl:=Aa hF
 exact Ay z z<|⟨_,z,AD hC2 _⟩
theorem c_Cmp_isNaN_int {w0:World} (a1:Int) (rr:Bool) (hF:Cmp.isNaN_int a1=some rr) :
 Calls Tryz.prog 215 [(I a1)].toArray w0 fun e w'=>∃v,e=.returned v∧Res w0 rr v w':=by
 refine Aw Tryz.func215 z z ?_
 have hC0:=A1 w0
 unfold Cmp.isNaN_int at hF
 refine Ac<|Ae z z<|Ab<|Ac<|Af z z<|Af z z<|BI z z z<|Ae z z<|Ab<|AC<|?_
 obtain rfl:=Aa hF
 exact Ay z z<|⟨_,z,AD hC0 _⟩
theorem c_Cmp_Compare_int {w0:World} (a1:Int) (a2:Int) (rr:Int) (hF:Cmp.Compare_int a1 a2=some rr) :
 Calls Tryz.prog 184 [(I a1),(I a2)].toArray w0 fun e w'=>∃v,e=.returned v∧Res w0 rr v w':=by
 refine Aw Tryz.func184 z z ?_
 have hC0:=A1 w0
 unfold Cmp.Compare_int at hF
 refine Ac<|Ae z z<|Ab<|Ac<|Af z z<|be hF fun x1 hr1 hF=>cb Tryz.call215 z z (c_Cmp_isNaN_int a1 x1 hr1) fun w1 hB1=>have hC1:=hC0.grow hB1;Ae z z<|Ab<|Ac<|Af z z<|be hF fun x2 hr2 hF=>cb Tryz.call215 z z (c_Cmp_isNaN_int a2 x2 hr2) fun w2 hB2=>have hC2:=hC1.grow hB2;Ae z z<|Ab<|A0<|Ac<|Af z z<|Ab<|A7 z (fun hc1=>?_) (fun hc1=>?_)
 ·replace hF:=A9 hF hc1
  refine A0<|Ac<|Af z z<|Ab<|A7 z (fun hc2=>?_) (fun hc2=>?_)
  ·replace hF:=A9 hF hc2
   refine Ac<|Ae z z<|Ab<|AC<|Ar<|Ar<|?_
   obtain rfl:=Aa hF
   exact Ay z z<|⟨_,z,Bk hC2 _⟩
  replace hF:=AA hF hc2
  refine A6<|Aj<|Ac<|Ae z z<|Ab<|AC<|Ar<|?_
  obtain rfl:=Aa hF
  exact Ay z z<|⟨_,z,Bk hC2 _⟩
 replace hF:=AA hF hc1
 refine A6<|Aj<|A0<|Ac<|Af z z<|Ab<|A7 z (fun hc3=>?_) (fun hc3=>?_)
 ·replace hF:=A9 hF hc3
  refine Ac<|Ae z z<|Ab<|AC<|Ar<|?_
  obtain rfl:=Aa hF
  exact Ay z z<|⟨_,z,Bk hC2 _⟩
 replace hF:=AA hF hc3
 refine A6<|Aj<|A0<|Ac<|Af z z<|Af z z<|AW z z z<|Ab<|A7 z (fun hc4=>?_) (fun hc4=>?_)
 ·replace hF:=A9 hF hc4
  refine Ac<|Ae z z<|Ab<|AC<|Ar<|?_
  obtain rfl:=Aa hF
  exact Ay z z<|⟨_,z,Bk hC2 _⟩
 replace hF:=AA hF hc4
 refine A6<|Aj<|A0<|Ac<|Af z z<|Af z z<|C1 z z z<|Ab<|A7 z (fun hc5=>?_) (fun hc5=>?_)
 ·replace hF:=A9 hF hc5
  refine Ac<|Ae z z<|Ab<|AC<|Ar<|?_
  obtain rfl:=Aa hF
  exact Ay z z<|⟨_,z,Bk hC2 _⟩
 replace hF:=AA hF hc5
 refine A6<|Aj<|Ac<|Ae z z<|Ab<|AC<|?_
 obtain rfl:=Aa hF
 exact Ay z z<|⟨_,z,Bk hC2 _⟩
theorem c_Slices_Compare_Lint_int {w0:World} (a1:(List Int)) (u1:Value) (g1:RO [] w0 u1 a1) (a2:(List Int)) (u2:Value) (g2:RO [] w0 u2 a2) (rr:Int) (hF:Slices.Compare_Lint_int a1 a2=some rr) :
 Calls Tryz.prog 138 [u1,u2].toArray w0 fun e w'=>∃v,e=.returned v∧Res w0 rr v w':=by
 refine Aw Tryz.func138 z z ?_
 have hC0:=A1 w0
 unfold Slices.Compare_Lint_int at hF
 refine Ac<|Ae z z<|Ab<|A0<|Ac<|Af z z<|AL Ag g1 z z<|Af z z<|Ab<|be hF fun r1 hr1 hF=>Bf (fun l w=>.inl ()=r1∧l=[(0,u1),(1,u2)]∧Below w0.heap.size w0 w∧Ctx [] w0 w []) ?_ ?_
 ·refine AB<|wS (l':=[(0,u1),(1,u2),(9,u1),(10,(I (List.length a1:Int))),(11,(I 0))]) ⟨z,z,z,z,z,Ah⟩<|Bo (fun k l w=>∃x1:Int,l=[(0,u1),(1,u2),(9,u1),(10,(I (List.length a1:Int))),(11,(I x1))]∧Below w0.heap.size w0 w∧Ctx [] w0 w []∧Slices.Compare_Lint_int_l1 a1 a2 k x1=some r1) FUEL ⟨0,z,(Am _ _),hC0,hr1⟩<|?_
  clear hr1
  rintro k1 _ w1 ⟨x1,rfl,hB1,hC1,hL1⟩
  cases k1 with
  | zero=>rw [Slices.Compare_Lint_int_l1] at hL1; cases hL1
  | succ k1 =>
   rw [Slices.Compare_Lint_int_l1] at hL1
   refine Ac<|AW z z z<|Ab<|A0<|A7 z (fun hc1=>?_) (fun hc1=>?_)
   ·replace hL1:=A9 hL1 hc1
    refine A6<|Aj<|A0<|AB<|Ac<|Af z z<|be hL1 fun x2 hx1 hL1=>AE Ag ty3 g1 hx1 z z z fun b1 o1 h1=>AH ty3 h1 hC1.keep z z fun v1 h2=>?_
    obtain rfl:=By h2
    refine Ae z z<|Ae z z<|Ab<|A0<|Ac<|Af z z<|Af z z<|AL Ag g2 z z<|Cu z z z<|Ab<|A7 z (fun hc2=>?_) (fun hc2=>?_)
    ·replace hL1:=A9 hL1 hc2
     refine Ac<|Ae z z<|Ab<|AC<|Ar<|AU<|Ar<|Ar<|AU<|Ar<|Ar<|?_
     obtain rfl:=Aa hL1
     dsimp only at hF
     obtain rfl:=Aa hF
     exact Ay z z<|⟨_,z,Bk hC1 _⟩
    replace hL1:=AA hL1 hc2
    refine A6<|Aj<|Ac<|Af z z<|Af z z<|be hL1 fun x3 hx2 hL1=>AE Ag ty3 g2 hx2 z z z fun b2 o2 h3=>AH ty3 h3 hC1.keep z z fun v2 h4=>?_
    obtain rfl:=By h4
    refine Ae z z<|Ab<|Ac<|Af z z<|Af z z<|be hL1 fun x4 hr2 hL1=>ci Tryz.call184 z z (c_Cmp_Compare_int x2 x3 x4 hr2) fun w2 hB2=>have hC2:=hC1.grow hB2;Ae z z<|Ab<|Ac<|Af z z<|BI z z z<|Ab<|A7 z (fun hc3=>?_) (fun hc3=>?_)
    ·replace hL1:=A9 hL1 hc3
     refine Ac<|Af z z<|Ae z z<|Ab<|AC<|AU<|Ar<|Ar<|AU<|Ar<|Ar<|?_
     obtain rfl:=Aa hL1
     dsimp only at hF
     obtain rfl:=Aa hF
     exact Ay z z<|⟨_,z,Bk hC2 _⟩
    replace hL1:=AA hL1 hc3
    exact A6<|AJ<|Aj<|AX<|Be z z z<|Af z z<|Ab<|An (l':=[(0,u1),(1,u2),(9,u1),(10,(I (List.length a1:Int))),(11,(I (w64 (x1+1))))]) ⟨z,z,z,z,z,Ah⟩<|⟨k1,Az _,w64 (x1+1),z,((Ap hB1).then hB2).below,hC2,hL1⟩
   replace hL1:=AA hL1 hc1
   refine Bm (A2 (A2 (AT ?_)))
   obtain rfl:=Aa hL1
   exact An (l':=[(0,u1),(1,u2)]) ⟨z,z,Ah⟩<|⟨z,z,(Ap hB1).below,hC1⟩
 rintro l2 _ w3 hs2 ⟨rfl,rfl,hB3,hC3⟩
 try dsimp only at hF
 refine AO hs2 ?_
 clear hs2
 refine A0<|Ac<|Af z z<|AL Ag g1 z z<|Af z z<|AL Ag g2 z z<|AW z z z<|Ab<|A7 z (fun hc4=>?_) (fun hc4=>?_)
 ·replace hF:=A9 hF hc4
  refine Ac<|Ae z z<|Ab<|AC<|Ar<|?_
  obtain rfl:=Aa hF
  exact Ay z z<|⟨_,z,Bk hC3 _⟩
 replace hF:=AA hF hc4
 refine A6<|Aj<|Ac<|Ae z z<|Ab<|AC<|?_
 obtain rfl:=Aa hF
 exact Ay z z<|⟨_,z,Bk hC3 _⟩
theorem c_Cmp_Or_int {w0:World} (a1:(List Int)) (u1:Value) (g1:RO [] w0 u1 a1) (rr:Int) (hF:Cmp.Or_int a1=some rr) :
 Calls Tryz.prog 192 [u1].toArray w0 fun e w'=>∃v,e=.returned v∧Res w0 rr v w':=by
 refine Aw Tryz.func192 z z ?_
 have hC0:=A1 w0
 unfold Cmp.Or_int at hF
 refine Ac<|Ae z z<|Ab<|Ac<|Ae z z<|Ab<|A0<|Ac<|Af z z<|AL Ag g1 z z<|Af z z<|Ab<|be hF fun r1 hr1 hF=>Bf (fun l w=>.inl ()=r1∧l=[(3,(I 0))]∧Below w0.heap.size w0 w∧Ctx [] w0 w []) ?_ ?_
 ·refine AB<|wS (l':=[(3,(I 0)),(6,u1),(7,(I (List.length a1:Int))),(8,(I 0))]) ⟨z,z,z,z,Ah⟩<|Bo (fun k l w=>∃x1:Int,l=[(3,(I 0)),(6,u1),(7,(I (List.length a1:Int))),(8,(I x1))]∧Below w0.heap.size w0 w∧Ctx [] w0 w []∧Cmp.Or_int_l1 a1 k x1=some r1) FUEL ⟨0,z,(Am _ _),hC0,hr1⟩<|?_
  clear hr1
  rintro k1 _ w1 ⟨x1,rfl,hB1,hC1,hL1⟩
  cases k1 with
  | zero=>rw [Cmp.Or_int_l1] at hL1; cases hL1
  | succ k1 =>
   rw [Cmp.Or_int_l1] at hL1
   refine Ac<|AW z z z<|Ab<|A0<|A7 z (fun hc1=>?_) (fun hc1=>?_)
   ·replace hL1:=A9 hL1 hc1
    refine A6<|Aj<|A0<|AB<|Ac<|be hL1 fun x2 hx1 hL1=>AE Ag ty3 g1 hx1 z z z fun b1 o1 h1=>AH ty3 h1 hC1.keep z z fun v1 h2=>?_
    obtain rfl:=By h2
    refine Ae z z<|Ab<|Ac<|Af z z<|Af z z<|BI z z z<|Ab<|A7 z (fun hc2=>?_) (fun hc2=>?_)
    ·replace hL1:=A9 hL1 hc2
     refine Ac<|Af z z<|Ae z z<|Ab<|AC<|AU<|Ar<|Ar<|AU<|Ar<|Ar<|?_
     obtain rfl:=Aa hL1
     dsimp only at hF
     obtain rfl:=Aa hF
     exact Ay z z<|⟨_,z,Bk hC1 _⟩
    replace hL1:=AA hL1 hc2
    exact A6<|AJ<|Aj<|AX<|Be z z z<|Af z z<|Ab<|An (l':=[(3,(I 0)),(6,u1),(7,(I (List.length a1:Int))),(8,(I (w64 (x1+1))))]) ⟨z,z,z,z,Ah⟩<|⟨k1,Az _,w64 (x1+1),z,(Ap hB1).below,hC1,hL1⟩
   replace hL1:=AA hL1 hc1
   refine Bm (A2 (A2 (AT ?_)))
   obtain rfl:=Aa hL1
   exact An (l':=[(3,(I 0))]) ⟨z,Ah⟩<|⟨z,z,(Ap hB1).below,hC1⟩
 rintro l2 _ w2 hs2 ⟨rfl,rfl,hB2,hC2⟩
 try dsimp only at hF
 refine AO hs2 ?_
 clear hs2
 refine Ac<|Af z z<|Ae z z<|Ab<|AC<|?_
 obtain rfl:=Aa hF
 exact Ay z z<|⟨_,z,Bk hC2 _⟩
theorem c_M_CompareFacts {w0:World} (a1:(Int × (List Int))) (u1:Value) (g1:RO [] w0 u1 a1.2) (a2:(Int × (List Int))) (u2:Value) (g2:RO [] w0 u2 a2.2) (rr:Int) (hF:M.CompareFacts a1 a2=some rr) :
 Calls Tryz.prog 147 [(.agg #[(I a1.1),u1]),(.agg #[(I a2.1),u2])].toArray w0 fun e w'=>∃v,e=.returned v∧Res w0 rr v w':=by
 refine Aw Tryz.func147 z z ?_
 have hC0:=A1 w0
 unfold M.CompareFacts at hF
 refine Ac<|Bb (cs:=[(I a1.1),u1]) hC0 z z z fun b1 w1 hC1 hB1 hN1=>Bb (cs:=[(I a2.1),u2]) hC1 z z z fun b2 w2 hC2 hB2 hN2=>Ae z z<|Ab<|A0<|W_drawn 13 z hmix fun w3 hB3=>have hC3:=hC2.grow hB3;tf 0 AF A5 z z z z z<|tf 2 AF A5 z z z z z<|tf 5 AF Au z z z z z<|tf 7 AF Au z z z z z<|be hF fun x1 hr1 hF=>wAS (l':=[(0,(.agg #[(I a1.1),u1])),(1,(.agg #[(I a2.1),u2])),(2,(ptr b1 0)),(3,(ptr b2 0)),(4,(I 0)),(5,(ptr b1 0)),(7,(ptr b2 0)),(10,(ptr b1 1)),(12,(ptr b2 1))]) ⟨z,z,z,z,z,z,z,z,z,Ah⟩<|Bq [⟨1,[],fun vs=>Bg (I a1.1),[]⟩,⟨3,[],fun vs=>Bg (I a2.1),[]⟩,⟨4,[],fun vs=>Bg (I x1),[]⟩,⟨6,[],fun vs=>Bg u1,[]⟩,⟨8,[],fun vs=>Bg u2,[]⟩] [[],[],[1,3],[],[]] 4 z (by kernel_rfl) (by kernel_rfl) z ?_ ?_
 ·refine Aq z ?_ ?_
  ·intro w5 hB5
   refine Ax<|⟨_,z,?_⟩
   exact Al (hC3.grow hB5) 1 z z AV z z<|Ab<|A3 (Am _ _) z z ⟨z,z⟩
  refine Aq z ?_ ?_
  ·intro w5 hB5
   refine Ax<|⟨_,z,?_⟩
   exact Al (hC3.grow hB5) 0 z z AV z z<|Ab<|A3 (Am _ _) z z ⟨z,z⟩
  refine Aq z ?_ ?_
  ·intro w5 hB5
   refine AN z z z ?_
   rintro _ _ ⟨rfl,rfl⟩ _
   refine AN z z z ?_
   rintro _ _ ⟨rfl,rfl⟩ _
   refine Ax<|⟨_,z,?_⟩
   exact ci Tryz.call184 z z (c_Cmp_Compare_int a1.1 a2.1 x1 hr1) fun w4 hB4=>Ab<|A3 hB4 z z ⟨z,z⟩
  refine Aq z ?_ ?_
  ·intro w5 hB5
   refine Ax<|⟨_,z,?_⟩
   exact Al (hC3.grow hB5) 1 z z At z z<|Ab<|A3 (Am _ _) z z ⟨z,z⟩
  refine Aq z ?_ ?_
  ·intro w5 hB5
   refine Ax<|⟨_,z,?_⟩
   exact Al (hC3.grow hB5) 0 z z At z z<|Ab<|A3 (Am _ _) z z ⟨z,z⟩
  exact Bl
 intro w6 hB6
 refine Av z z z ?_
 rintro _ _ ⟨rfl,rfl⟩
 refine Av z z z ?_
 rintro _ _ ⟨rfl,rfl⟩
 refine Av z z z ?_
 rintro _ _ ⟨rfl,rfl⟩
 refine Av z z z ?_
 rintro _ _ ⟨rfl,rfl⟩
 refine Av z z z ?_
 rintro _ _ ⟨rfl,rfl⟩
 refine Bv fun hn1 hb1=>have hC4:=hC3.grow hB6;be hF fun x2 hr2 hF=>oe 9 z<|ci Tryz.call138 z z (c_Slices_Compare_Lint_int a1.2 u1 (g1.now hC4.keep) a2.2 u2 (g2.now hC4.keep) x2 hr2) fun w7 hB7=>have hC5:=hC4.grow hB7;Ab<|oe 10 z<|A8 (vs:=[(I x1),(I x2)]) hC5 Ag ty3 z z z z (fac z<|fac z<|fa0) z z fun b3 w9 hC6 hB8=>?_
 have hC7:=hC6.row0 (α:=Int)
 have hC8:=hC7.triv (B2 (x2))
 have hC9:=hC8.row1
 have hC10:=hC9.triv (B2 (x1))
 have hC11:=hC10.row1
 have hC12:=hC11.front 1 z
 dsimp only [List.eraseIdx,List.cons_append,List.nil_append,List.append_nil] at hC12
 have hC13:Ctx [] w0 w9 (Ad (.slice (some ⟨b3,0,none⟩) 2 2) ([x1,x2]:List Int)::[Ai b2 [(I a2.1),u2],Ai b1 [(I a1.1),u1]]):=hC12.rowOwn (by simp [maxLen])
 refine Ab<|be hF fun x3 hr3 hF=>oe 11 z<|ci Tryz.call192 z z (c_Cmp_Or_int ([x1,x2]) (.slice (some ⟨b3,0,none⟩) 2 2) ((hC13.ro 0 z).now (AP _ _)) x3 hr3) fun w10 hB9=>have hC14:=hC13.grow hB9;Ab<|ta 12 z z z<|dn<|Aj<|AC<|?_
 obtain rfl:=Aa hF
 exact Ay z z<|⟨_,z,Bk hC14 _⟩
theorem c_M_IsFact {w0:World} (a1:(List Int)) (u1:Value) (g1:RO [] w0 u1 a1) (a2:(Int × (List Int))) (u2:Value) (g2:RO [] w0 u2 a2.2) (rr:Bool) (hF:M.IsFact a1 a2=some rr) :
 Calls Tryz.prog 220 [u1,(.agg #[(I a2.1),u2])].toArray w0 fun e w'=>∃v,e=.returned v∧Res w0 rr v w':=by
 refine Aw Tryz.func220 z z ?_
 have hC0:=A1 w0
 unfold M.IsFact at hF
 refine Ac<|Bb (cs:=[(I a2.1),u2]) hC0 z z z fun b1 w1 hC1 hB1 hN1=>Ae z z<|Ab<|be hF fun r1 hr1 hF=>BH (fun l w=>∃x1:Bool,x1=r1∧l=[(4,(.bool x1))]∧Below w1.heap.size w1 w∧Ctx [] w0 w []) ?_ ?_
 ·refine W_drawn 21 z hmix fun w3 hB3=>have hC3:=hC1.grow hB3;tm 0 z z z<|tf 1 AF A5 z z z z z<|oe 2 z<|Al hC3 0 z z AV z z<|Ab<|be hr1 fun x2 hr2 hr1=>oe 3 z<|cb Tryz.call156 z z (c_M_hasRel a1 u1 (g1.now hC3.keep) a2.1 x2 hr2) fun w4 hB4=>have hC4:=hC3.grow hB4;Ab<|tm 4 z z z<|BP (fun hc1=>?_) (fun hc1=>?_)
  ·replace hr1:=A9 hr1 hc1
   refine tg 5 z z z z (BG AF z z (fun w=>⟨_,Au w⟩) z)<|Ak z z<|fd AF Au z z z z<|Ab<|tn 8 z z z z z<|tg 9 z z z z (BG AF z z (fun w=>⟨_,A5 w⟩) z)<|Ak z z<|fd AF A5 z z z z<|Ab<|be hr1 fun x3 hx1 hr1=>wAS (l':=[(0,u1),(1,(.agg #[(I a2.1),u2])),(3,(ptr b1 0)),(4,(.bool false)),(5,u1),(6,(ptr b1 0)),(7,(I a2.1)),(8,(.bool x2)),(9,(.bool true)),(10,(ptr b1 1)),(13,u1),(14,(ptr b1 0))]) ⟨z,z,z,z,z,z,z,z,z,z,z,z,Ah⟩<|Bq [⟨6,[],fun vs=>Bg u2,[]⟩,⟨7,[],fun vs=>Bg (I (List.length a2.2:Int)),[]⟩,⟨10,[],fun vs=>Bg (I a2.1),[]⟩,⟨11,[],fun vs=>Cj [] w0 x3,[]⟩,⟨12,[],fun vs=>Bg (I x3),[]⟩] [[],[6],[],[10],[11]] 8 z (by kernel_rfl) (by kernel_rfl) z ?_ ?_
   ·refine Aq z ?_ ?_
    ·intro w5 hB5
     refine Ax<|⟨_,z,?_⟩
     exact Ak z z<|Al (hC4.grow hB5) 0 z z At z z<|Ab<|A3 (Am _ _) z z ⟨z,z⟩
    refine Aq z ?_ ?_
    ·intro w5 hB5
     refine AN z z z ?_
     rintro _ _ ⟨rfl,rfl⟩ _
     refine Ax<|⟨_,z,?_⟩
     exact Ak z z<|AL Ag g2 z z<|Ab<|A3 (Am _ _) z z ⟨z,z⟩
    refine Aq z ?_ ?_
    ·intro w5 hB5
     refine Ax<|⟨_,z,?_⟩
     exact Ak z z<|Al (hC4.grow hB5) 0 z z AV z z<|Ab<|A3 (Am _ _) z z ⟨z,z⟩
    refine Aq z ?_ ?_
    ·intro w5 hB5
     refine AN z z z ?_
     rintro _ _ ⟨rfl,rfl⟩ _
     refine Ax<|⟨_,z,?_⟩
     exact Ak z z<|AE Ag ty3 g1 hx1 z z z fun b2 o1 h1=>Ab<|A3 (Am _ _) z z ⟨z,_,_,z,h1⟩
    refine Aq z ?_ ?_
    ·intro w5 hB5
     refine AN z z z ?_
     rintro _ _ ⟨rfl,b2,o1,rfl,h1⟩ _
     refine Ax<|⟨_,z,?_⟩
     refine Ak z z<|AH ty3 h1 (hC4.keep.then hB5) z z fun v1 h2=>?_
     obtain rfl:=By h2
     exact Ab<|A3 (Am _ _) z z ⟨z,z⟩
    exact Bl
   intro w6 hB6
   refine Av z z z ?_
   rintro _ _ ⟨rfl,rfl⟩
   refine Av z z z ?_
   rintro _ _ ⟨rfl,rfl⟩
   refine Av z z z ?_
   rintro _ _ ⟨rfl,rfl⟩
   refine Av z z z ?_
   rintro _ _ ⟨rfl,b2,o1,rfl,h1⟩
   refine Av z z z ?_
   rintro _ _ ⟨rfl,rfl⟩
   refine Bv fun hn1 hb1=>have hC5:=hC4.grow hB6;tg 13 z z z z (Dy z z)<|Ak z z<|Ca z z z<|Ab<|tp 14 z z z z<|tm 15 z z z<|BP (fun hc2=>?_) (fun hc2=>?_)
   ·replace hr1:=A9 hr1 hc2
    refine tg 16 z z z z (BG AF z z (fun w=>⟨_,Au w⟩) z)<|Ak z z<|fd AF Au z z z z<|Ab<|oe 17 z<|Ak z z<|Al hC5 0 z z At z z<|Ab<|be hr1 fun x4 hr3 hr1=>oe 18 z<|Ak z z<|cb Tryz.call219 z z (c_M_areValues a2.2 u2 (g2.now hC5.keep) x4 hr3) fun w7 hB7=>have hC6:=hC5.grow hB7;Ab<|tp 19 z z z z<|ta 20 z z z<|dn<|?_
    obtain rfl:=Aa hr1
    have hC7:=hC6.h0
    exact An (l':=[(4,(.bool x4))]) ⟨z,Ah⟩<|⟨x4,z,z,((((Ap hB3).then hB4).then hB6).then hB7).below,hC7⟩
   replace hr1:=AA hr1 hc2
   refine sk 16 z z z z z<|sk 17 z z z z z<|sk 18 z z z z z<|tq 19 z z z z<|ta 20 z z z<|dn<|?_
   obtain rfl:=Aa hr1
   have hC8:=hC5.h0
   exact An (l':=[(4,(.bool false))]) ⟨z,Ah⟩<|⟨false,z,z,(((Ap hB3).then hB4).then hB6).below,hC8⟩
  replace hr1:=AA hr1 hc1
  refine sk 5 z z z z z<|sk 6 z z z z z<|sk 7 z z z z z<|sk 8 z z z z z<|sk 9 z z z z z<|sk 10 z z z z z<|sk 11 z z z z z<|sk 12 z z z z z<|sk 13 z z z z z<|tq 14 z z z z<|tm 15 z z z<|sk 16 z z z z z<|sk 17 z z z z z<|sk 18 z z z z z<|tq 19 z z z z<|ta 20 z z z<|dn<|?_
  obtain rfl:=Aa hr1
  have hC9:=hC4.h0
  exact An (l':=[(4,(.bool false))]) ⟨z,Ah⟩<|⟨false,z,z,((Ap hB3).then hB4).below,hC9⟩
 rintro _ w2 ⟨x1,rfl,rfl,hB2,hC2⟩
 try dsimp only at hF
 refine AC ?_
 obtain rfl:=Aa hF
 exact Ay z z<|⟨_,z,AD hC2 _⟩
theorem c_M_AreFacts {w0:World} (a1:(List Int)) (u1:Value) (g1:RO [] w0 u1 a1) (a2:(List (Int × (List Int)))) (u2:Value) (g2:RO [] w0 u2 a2) (rr:Bool) (hF:M.AreFacts a1 a2=some rr) :
 Calls Tryz.prog 194 [u1,u2].toArray w0 fun e w'=>∃v,e=.returned v∧Res w0 rr v w':=by
 refine Aw Tryz.func194 z z ?_
 have hC0:=A1 w0
 unfold M.AreFacts at hF
 refine Ac<|Ae z z<|Ab<|A0<|Ac<|Af z z<|AL Ao g2 z z<|Af z z<|Ab<|be hF fun r1 hr1 hF=>Bf (fun l w=>.inl ()=r1∧l=[(0,u1),(1,u2)]∧Ctx [] w0 w []) ?_ ?_
 ·refine AB<|wS (l':=[(0,u1),(1,u2),(7,u2),(8,(I (List.length a2:Int))),(9,(I 0))]) ⟨z,z,z,z,z,Ah⟩<|Bo (fun k l w=>∃x1:Int,l=[(0,u1),(1,u2),(7,u2),(8,(I (List.length a2:Int))),(9,(I x1))]∧Ctx [] w0 w []∧M.AreFacts_l1 a2 a1 k x1=some r1) FUEL ⟨0,z,hC0,hr1⟩<|?_
  clear hr1
  rintro k1 _ w1 ⟨x1,rfl,hC1,hL1⟩
  cases k1 with
  | zero=>rw [M.AreFacts_l1] at hL1; cases hL1
  | succ k1 =>
   rw [M.AreFacts_l1] at hL1
   refine Ac<|AW z z z<|Ab<|A0<|A7 z (fun hc1=>?_) (fun hc1=>?_)
   ·replace hL1:=A9 hL1 hc1
    refine A6<|Aj<|A0<|AB<|Ac<|Af z z<|be hL1 fun x2 hx1 hL1=>AE Ao ty77 g2 hx1 z z z fun b1 o1 h1=>AH ty77 h1 hC1.keep z z fun v1 h2=>?_
    obtain ⟨v2,rfl,h3⟩:=BM h2
    refine B0 hC1 zero77 z z fun b2 w2 hC2 hB2 hN1=>Ae z z<|AS (cs':=[(I x2.1),v2]) (new:=[(I x2.1),v2]) hC2 0 z z (fac z<|fac (B1 h3)<|fa0) z Br z z fun w3 hC3 hKp1=>?_
    try dsimp only [List.set] at hC3
    have hk1:=AI (Ap hB2) hN1 hKp1
    refine Ab<|be hL1 fun r2 hr2 hL1=>BH (fun l w=>∃x3:Bool,x3=r2∧l=[(0,u1),(1,u2),(7,u2),(8,(I (List.length a2:Int))),(9,(I x1)),(31,(.bool x3))]∧Below w3.heap.size w3 w∧Ctx [] w0 w []) ?_ ?_
    ·refine W_drawn 18 z hmix fun w5 hB4=>have hC5:=hC3.grow hB4;tm 0 z z z<|oe 1 z<|A4 [(I x2.1),v2] hC5 0 z z z B4 Br z z<|Ab<|be hr2 fun x4 hr3 hr2=>oe 2 z<|cb Tryz.call220 z z (c_M_IsFact a1 u1 (g1.now hC5.keep) (x2.1,x2.2) v2 (h3.now hC5.keep) x4 hr3) fun w6 hB5=>have hC6:=hC5.grow hB5;Ab<|tk 3 z z (Cs z)<|Bw z z<|Ab<|tm 4 z z z<|BP (fun hc2=>?_) (fun hc2=>?_)
     ·replace hr2:=A9 hr2 hc2
      refine sk 5 z z z z z<|sk 6 z z z z z<|sk 7 z z z z z<|sk 8 z z z z z<|sk 9 z z z z z<|sk 10 z z z z z<|sk 11 z z z z z<|sk 12 z z z z z<|sk 13 z z z z z<|sk 14 z z z z z<|sk 15 z z z z z<|sk 16 z z z z z<|tp 17 z z z z<|dn<|?_
      obtain rfl:=Aa hr2
      have hC7:=hC6.h0
      exact An (l':=[(0,u1),(1,u2),(7,u2),(8,(I (List.length a2:Int))),(9,(I x1)),(31,(.bool true))]) ⟨z,z,z,z,z,z,Ah⟩<|⟨true,z,z,((Ap hB4).then hB5).below,hC7⟩
     replace hr2:=AA hr2 hc2
     refine tn 5 z z z z z<|tg 6 z z z z (fl_gtr z z)<|Ak z z<|C1 z z z<|Ab<|tn 7 z z z z z<|BP (fun hc3=>?_) (fun hc3=>?_)
     ·replace hr2:=A9 hr2 hc3
      refine tn 8 z z z z z<|tn 9 z z z z z<|tg 10 z z z z (Dv z z)<|Ak z z<|Cv z z z<|Ab<|be hr2 fun x5 hx2 hr2=>tg 11 z z z z (B8 Ao ty77 g2 hx2 z z)<|Ak z z<|AE Ao ty77 g2 hx2 z z z fun b3 o2 h4=>Ab<|wAS (l':=[(0,u1),(1,u2),(5,(I x1)),(6,(ptr b2 0)),(7,u2),(8,(I (List.length a2:Int))),(9,(I x1)),(10,(.bool (decide (x1 < (List.length a2:Int))))),(11,(I x1)),(12,(ptr b1 o1)),(13,(.agg #[(I x2.1),v2])),(14,u1),(15,(.agg #[(I x2.1),v2])),(16,(.bool x4)),(17,(.bool (!x4))),(18,(.bool false)),(19,(I x1)),(20,(.bool (decide (0 < x1)))),(21,(.bool true)),(22,u2),(23,(I x1)),(24,(I (w64 (x1 - 1)))),(25,(ptr b3 o2))]) ⟨z,z,z,z,z,z,z,z,z,z,z,z,z,z,z,z,z,z,z,z,z,z,z,Ah⟩<|Bq [⟨12,[],fun vs=>Cc [] w0 x5,[]⟩,⟨13,[],fun vs=>Bg (.agg #[(I x2.1),v2]),[]⟩] [[],[]] 4 z (by kernel_rfl) (by kernel_rfl) z ?_ ?_
      ·refine Aq z ?_ ?_
       ·intro w7 hB6
        refine Ax<|⟨_,z,?_⟩
        exact Ak z z<|AH ty77 h4 (hC6.keep.then hB6) z z fun v5 h7=>Ab<|A3 (Am _ _) z z ⟨z,h7⟩
       refine Aq z ?_ ?_
       ·intro w7 hB6
        refine Ax<|⟨_,z,?_⟩
        exact Ak z z<|A4 [(I x2.1),v2] (hC6.grow hB6) 0 z z z B4 Br z z<|Ab<|A3 (Am _ _) z z ⟨z,z⟩
       exact Bl
      intro w9 hB7
      refine Av z z z ?_
      rintro v5 _ ⟨rfl,h7⟩
      obtain ⟨v4,rfl,h6⟩:=BM h7
      refine Av z z z ?_
      rintro _ _ ⟨rfl,rfl⟩
      refine Bv fun hn1 hb1=>have hC8:=hC6.grow hB7;be hr2 fun x6 hr4 hr2=>oe 14 z<|Ak z z<|ci Tryz.call147 z z (c_M_CompareFacts x5 v4 (h6.now hC8.keep) (x2.1,x2.2) v2 (h3.now hC8.keep) x6 hr4) fun w10 hB8=>have hC9:=hC8.grow hB8;Ab<|tg 15 z z z z (fl_geq z z)<|Ak z z<|Cu z z z<|Ab<|tg 16 z z z z (Ds z z)<|Ak z z<|Ba z z z<|Ab<|tq 17 z z z z<|dn<|?_
      obtain rfl:=Aa hr2
      have hC10:=hC9.h0
      exact An (l':=[(0,u1),(1,u2),(7,u2),(8,(I (List.length a2:Int))),(9,(I x1)),(31,(.bool (decide (0 ≤ x6))))]) ⟨z,z,z,z,z,z,Ah⟩<|⟨(decide (0 ≤ x6)),z,z,((((Ap hB4).then hB5).then hB7).then hB8).below,hC10⟩
     replace hr2:=AA hr2 hc3
     refine sk 8 z z z z z<|sk 9 z z z z z<|sk 10 z z z z z<|sk 11 z z z z z<|sk 12 z z z z z<|sk 13 z z z z z<|sk 14 z z z z z<|sk 15 z z z z z<|tg 16 z z z z (Dt z z)<|Ak z z<|AY z z z<|Ab<|tq 17 z z z z<|dn<|?_
     obtain rfl:=Aa hr2
     have hC11:=hC6.h0
     exact An (l':=[(0,u1),(1,u2),(7,u2),(8,(I (List.length a2:Int))),(9,(I x1)),(31,(.bool false))]) ⟨z,z,z,z,z,z,Ah⟩<|⟨false,z,z,((Ap hB4).then hB5).below,hC11⟩
    rintro _ w4 ⟨x3,rfl,rfl,hB3,hC4⟩
    try dsimp only at hL1
    refine A7 z (fun hc4=>?_) (fun hc4=>?_)
    ·replace hL1:=A9 hL1 hc4
     refine Ac<|Ae z z<|Ab<|AC<|AU<|Ar<|Ar<|AU<|Ar<|Ar<|?_
     obtain rfl:=Aa hL1
     dsimp only at hF
     obtain rfl:=Aa hF
     exact Ay z z<|⟨_,z,AD hC4 _⟩
    replace hL1:=AA hL1 hc4
    exact A6<|AJ<|Aj<|AX<|Be z z z<|Af z z<|Ab<|An (l':=[(0,u1),(1,u2),(7,u2),(8,(I (List.length a2:Int))),(9,(I (w64 (x1+1))))]) ⟨z,z,z,z,z,Ah⟩<|⟨k1,Az _,w64 (x1+1),z,hC4,hL1⟩
   replace hL1:=AA hL1 hc1
   refine Bm (A2 (A2 (AT ?_)))
   obtain rfl:=Aa hL1
   exact An (l':=[(0,u1),(1,u2)]) ⟨z,z,Ah⟩<|⟨z,z,hC1⟩
 rintro l3 _ w11 hs3 ⟨rfl,rfl,hC12⟩
 try dsimp only at hF
 refine AO hs3 ?_
 clear hs3
 refine be hF fun r3 hr5 hF=>BH (fun l w=>∃x7:Bool,x7=r3∧l=[(4,(.bool x7))]∧Below w11.heap.size w11 w∧Ctx [] w0 w []) ?_ ?_
 ·refine AX<|Af z z<|be hr5 fun x8 hr6 hr5=>cb Dj z z (c_M_IsSchema a1 u1 (g1.now hC12.keep) x8 hr6) fun w13 hB11=>have hC14:=hC12.grow hB11;Af z z<|Bz (fun hc5=>?_) (fun hc5=>?_)
  ·replace hr5:=A9 hr5 hc5
   refine Ak z z<|Af z z<|Ak z z<|AL Ao g2 z z<|Ak z z<|CQ z z z<|Ba z z z<|Ae z z<|Ab<|?_
   obtain rfl:=Aa hr5
   exact An (l':=[(4,(.bool (decide ((List.length a2:Int) ≤ 24))))]) ⟨z,Ah⟩<|⟨(decide ((List.length a2:Int) ≤ 24)),z,z,(Ap hB11).below,hC14⟩
  replace hr5:=AA hr5 hc5
  refine gs z z z z<|gs z z z z<|gs z z z z<|AY z z z<|Ae z z<|Ab<|?_
  obtain rfl:=Aa hr5
  exact An (l':=[(4,(.bool false))]) ⟨z,Ah⟩<|⟨false,z,z,(Ap hB11).below,hC14⟩
 rintro _ w12 ⟨x7,rfl,rfl,hB10,hC13⟩
 try dsimp only at hF
 refine AC ?_
 obtain rfl:=Aa hF
 exact Ay z z<|⟨_,z,AD hC13 _⟩
theorem c_M_IsTold {w0:World} (a1:(List Int)) (u1:Value) (g1:RO [] w0 u1 a1) (a2:(List (Int × (List Int) × Int × Int × Int))) (u2:Value) (g2:RO [] w0 u2 a2) (a3:((Int × (List Int)) × (List (Int × (List Int))))) (u3:Value) (g3:RO [] w0 u3 a3.1.2) (u4:Value) (g4:RO [] w0 u4 a3.2) (rr:Bool) (hF:M.IsTold a1 a2 a3=some rr) :
 Calls Tryz.prog 148 [u1,u2,(.agg #[(I a3.1.1),u3,u4])].toArray w0 fun e w'=>∃v,e=.returned v∧Res w0 rr v w':=by
 refine Aw Tryz.func148 z z ?_
 have hC0:=A1 w0
 unfold M.IsTold at hF
 refine Ac<|Bb (cs:=[(I a3.1.1),u3,u4]) hC0 z z z fun b1 w1 hC1 hB1 hN1=>Ae z z<|Ab<|be hF fun r1 hr1 hF=>BH (fun l w=>∃x1:Bool,x1=r1∧l=[(6,(.bool x1))]∧Below w1.heap.size w1 w∧Ctx [] w0 w []) ?_ ?_
 ·refine AX<|Af z z<|Af z z<|fd AQ Bu z z z z<|A4 [(I a3.1.1),u3] hC1 0 z z z BZ Bu z z<|be hr1 fun x2 hr2 hr1=>cb Tryz.call193 z z (c_M_IsAccess a1 u1 (g1.now hC1.keep) a2 u2 (g2.now hC1.keep) (a3.1.1,a3.1.2) u3 (g3.now hC1.keep) x2 hr2) fun w3 hB3=>have hC3:=hC1.grow hB3;Af z z<|Bz (fun hc1=>?_) (fun hc1=>?_)
  ·replace hr1:=A9 hr1 hc1
   refine Ak z z<|Af z z<|Ak z z<|fd AQ Bx z z z z<|Ak z z<|Al hC3 0 z z B9 z z<|be hr1 fun x3 hr3 hr1=>Ak z z<|cb Tryz.call194 z z (c_M_AreFacts a1 u1 (g1.now hC3.keep) a3.2 u4 (g4.now hC3.keep) x3 hr3) fun w4 hB4=>have hC4:=hC3.grow hB4;Ba z z z<|Ae z z<|Ab<|?_
   obtain rfl:=Aa hr1
   have hC5:=hC4.h0
   exact An (l':=[(6,(.bool x3))]) ⟨z,Ah⟩<|⟨x3,z,z,((Ap hB3).then hB4).below,hC5⟩
  replace hr1:=AA hr1 hc1
  refine gs z z z z<|gs z z z z<|gs z z z z<|gs z z z z<|AY z z z<|Ae z z<|Ab<|?_
  obtain rfl:=Aa hr1
  have hC6:=hC3.h0
  exact An (l':=[(6,(.bool false))]) ⟨z,Ah⟩<|⟨false,z,z,(Ap hB3).below,hC6⟩
 rintro _ w2 ⟨x1,rfl,rfl,hB2,hC2⟩
 try dsimp only at hF
 refine AC ?_
 obtain rfl:=Aa hF
 exact Ay z z<|⟨_,z,AD hC2 _⟩
theorem c_Slices_Clone_Lint_int {w0:World} (a1:(List Int)) (u1:Value) (g1:RO [] w0 u1 a1) (rr:(List Int)) (hF:Slices.Clone_Lint_int a1=some rr) :
 Calls Tryz.prog 143 [u1].toArray w0 fun e w'=>∃v,e=.returned v∧Res w0 rr v w':=by
 refine Aw Tryz.func143 z z ?_
 have hC0:=A1 w0
 unfold Slices.Clone_Lint_int at hF
 refine Ac<|Ae z z<|Ab<|A0<|Ac<|Af z z<|WL_isnil Ag g1 z z fun bn1 hb1=>Ab<|?_
 rcases btf bn1 with hc1 | hc1
 ·have ha:=hb1 hc1
  subst hc1
  subst ha
  replace hF:(some ([]):Option (List Int))=some rr:=by simpa [app] using hF
  refine CA z<|Ac<|Ae z z<|Ab<|AC<|Ar<|?_
  obtain rfl:=Aa hF
  exact Ay z z<|⟨_,z,nil_res hC0⟩
 subst hc1
 refine CB z<|A6<|Aj<|Ac<|A8 (vs:=[]) hC0 Ag ty3 z z z z (by simp) z z fun b1 w1 hC1 hB1=>?_
 have hC2:=hC1.row0 (α:=Int)
 have hC3:=hC2.front 1 z
 dsimp only [List.eraseIdx,List.cons_append,List.nil_append,List.append_nil] at hC3
 have hC4:Ctx [] w0 w1 (Ad (.slice (some ⟨b1,0,none⟩) 0 0) (([]:List Int):List Int)::[]):=hC3.rowOwn (by simp [maxLen])
 refine Af z z<|be hF fun x1 hx1 hF=>Bt (α:=Int) hC4 0 z g1 hC4.keep Ag ty3 z hx1 z z z fun v1 w2 hC5=>?_
 try dsimp only [List.set] at hC5
 refine Ae z z<|Ab<|AC<|?_
 obtain rfl:=Aa hF
 exact Ay z z<|⟨_,z,B7 hC5 0 z⟩
theorem c_M_copyFact {w0:World} (a1:(Int × (List Int))) (u1:Value) (g1:RO [] w0 u1 a1.2) (rr:(Int × (List Int))) (hF:M.copyFact a1=some rr) :
 Calls Tryz.prog 158 [(.agg #[(I a1.1),u1])].toArray w0 fun e w'=>∃v,e=.returned v∧Res w0 rr v w':=by
 refine Aw Tryz.func158 z z ?_
 have hC0:=A1 w0
 unfold M.copyFact at hF
 refine Ac<|Bb (cs:=[(I a1.1),u1]) hC0 z z z fun b1 w1 hC1 hB1 hN1=>B0 hC1 zero77 z z fun b2 w2 hC2 hB2 hN2=>Ab<|A0<|W_drawn 7 z hmix fun w3 hB3=>have hC3:=hC2.grow hB3;tf 0 AF A5 z z z z z<|tf 2 AF Au z z z z z<|be hF fun x1 hr1 hF=>wAS (l':=[(0,(.agg #[(I a1.1),u1])),(1,(ptr b1 0)),(2,(ptr b2 0)),(3,(ptr b1 0)),(5,(ptr b1 1))]) ⟨z,z,z,z,z,Ah⟩<|Bq [⟨1,[],fun vs=>Bg (I a1.1),[]⟩,⟨3,[],fun vs=>Bg u1,[]⟩,⟨4,[],fun vs=>BX x1,[]⟩] [[],[],[3]] 2 z (by kernel_rfl) (by kernel_rfl) z ?_ ?_
 ·refine Aq z ?_ ?_
  ·intro w5 hB5
   refine Ax<|⟨_,z,?_⟩
   exact Al (hC3.grow hB5) 1 z z AV z z<|Ab<|A3 (Am _ _) z z ⟨z,z⟩
  refine Aq z ?_ ?_
  ·intro w5 hB5
   refine Ax<|⟨_,z,?_⟩
   exact Al (hC3.grow hB5) 1 z z At z z<|Ab<|A3 (Am _ _) z z ⟨z,z⟩
  refine Aq z ?_ ?_
  ·intro w5 hB5
   refine AN z z z ?_
   rintro _ _ ⟨rfl,rfl⟩ _
   refine Ax<|⟨_,z,?_⟩
   refine Bc CJ z z (c_Slices_Clone_Lint_int a1.2 u1 (g1.now (hC3.keep.then hB5)) x1 hr1) ?_
   rintro v1 w4 ⟨hB4,F1,hv1,hn1,hb1⟩
   exact Ab<|BW hB4 z z hv1 hn1 hb1 (Val.inh hv1)
  exact Bl
 intro w6 hB6
 refine Av z z z ?_
 rintro _ _ ⟨rfl,rfl⟩
 refine Av z z z ?_
 rintro _ _ ⟨rfl,rfl⟩
 refine Av z z z fun v1 F1 hv1=>Bv fun hn2 hb2=>?_
 have hC4:=hC3.pushL hB6 (Bs:=[Ad v1 (x1:(List Int))]) (Fs:=[F1]) ⟨F1,_,z,hv1,z⟩ (by simpa using hn2) (fun b h=>(hb2 b (by simpa using h)).1)
 refine tk 5 z z (CY (vs:=[(0,(I a1.1)),(1,v1)]) z z (built77_0_1 z (ro_cells (hC4.ro 0 z))))<|Ck (vs:=[(0,(I a1.1)),(1,v1)]) z z z (built77_0_1 z (ro_cells (hC4.ro 0 z)))<|Ab<|oe 6 z<|AS (cs':=[(I a1.1),v1]) (new:=[(I a1.1),v1]) hC4 1 z z (fac z<|fac (B1 (hC4.ro 0 z))<|fa0) z Br z z fun w7 hC5 hKp1=>?_
 try dsimp only [List.set] at hC5
 have hk1:=AI ((((Ap hB1).then hB2).then hB3).then hB6) (AM (Ap hB1).size hN2) hKp1
 have hk2:=AI (((Ap hB2).then hB3).then hB6) hN2 hKp1
 refine Ab<|dn<|Aj<|AC<|?_
 obtain rfl:=Aa hF
 refine Cl z (rv_cell_agg (cs':=[(I a1.1),v1]) hC5 (i:=1) z z z B4 Br z) ?_
 have hC6:=Cm a1.1 v1 x1 hC5
 exact ⟨_,z,B7 hC6 0 z⟩
theorem c_M_copyFacts {w0:World} (a1:(List (Int × (List Int)))) (u1:Value) (g1:RO [] w0 u1 a1) (rr:(List (Int × (List Int)))) (hF:M.copyFacts a1=some rr) :
 Calls Tryz.prog 104 [u1].toArray w0 fun e w'=>∃v,e=.returned v∧Res w0 rr v w':=by
 refine Aw Tryz.func104 z z ?_
 have hC0:=A1 w0
 unfold M.copyFacts at hF
 refine Ac<|Ae z z<|Ab<|Ac<|A8 (vs:=[]) hC0 Ao ty77 z z z z (by simp) z z fun b1 w1 hC1 hB1=>?_
 have hC2:=hC1.row0 (α:=(Int × (List Int)))
 have hC3:=hC2.front 1 z
 dsimp only [List.eraseIdx,List.cons_append,List.nil_append,List.append_nil] at hC3
 have hC4:Ctx [] w0 w1 (Ad (.slice (some ⟨b1,0,none⟩) 0 0) (([]:List (Int × (List Int))):List (Int × (List Int)))::[]):=hC3.rowOwn (by simp [maxLen])
 refine Ae z z<|Ab<|A0<|Ac<|Af z z<|AL Ao g1 z z<|Af z z<|Ab<|be hF fun r1 hr1 hF=>Bf (fun l w=>∃v2:Value,∃x3:(List (Int × (List Int))),x3=r1∧l=[(3,v2)]∧Ctx [] w0 w [Ad v2 (x3:(List (Int × (List Int))))]) ?_ ?_
 ·refine AB<|wS (l':=[(3,(.slice (some ⟨b1,0,none⟩) 0 0)),(7,u1),(8,(I (List.length a1:Int))),(9,(I 0))]) ⟨z,z,z,z,Ah⟩<|Bo (fun k l w=>∃v1:Value,∃x1:(List (Int × (List Int))),∃x2:Int,l=[(3,v1),(7,u1),(8,(I (List.length a1:Int))),(9,(I x2))]∧Ctx [] w0 w [Ad v1 (x1:(List (Int × (List Int))))]∧M.copyFacts_l1 a1 k x1 x2=some r1) FUEL ⟨(.slice (some ⟨b1,0,none⟩) 0 0),([]:List (Int × (List Int))),0,z,hC4,hr1⟩<|?_
  clear hr1
  rintro k1 _ w2 ⟨v1,x1,x2,rfl,hC5,hL1⟩
  cases k1 with
  | zero=>rw [M.copyFacts_l1] at hL1; cases hL1
  | succ k1 =>
   rw [M.copyFacts_l1] at hL1
   refine Ac<|AW z z z<|Ab<|A0<|A7 z (fun hc1=>?_) (fun hc1=>?_)
   ·replace hL1:=A9 hL1 hc1
    refine A6<|Aj<|A0<|AB<|Ac<|be hL1 fun x4 hx1 hL1=>AE Ao ty77 g1 hx1 z z z fun b2 o1 h1=>AH ty77 h1 hC5.keep z z fun v3 h2=>?_
    obtain ⟨v4,rfl,h3⟩:=BM h2
    refine B0 hC5 zero77 z z fun b3 w3 hC6 hB3 hN1=>AS (cs':=[(I x4.1),v4]) (new:=[(I x4.1),v4]) hC6 0 z z (fac z<|fac (B1 h3)<|fa0) z Br z z fun w4 hC7 hKp1=>?_
    try dsimp only [List.set] at hC7
    have hk1:=AI (Ap hB3) hN1 hKp1
    refine Ab<|AX<|Af z z<|A4 [(I x4.1),v4] hC7 0 z z z B4 Br z z<|be hL1 fun x5 hr2 hL1=>Bc Tryz.call158 z z (c_M_copyFact (x4.1,x4.2) v4 (h3.now hC7.keep) x5 hr2)<|?_
    rintro v5 w5 ⟨hB4,F1,hv1,hn1,hb1⟩
    have hC8:=hC7.push hB4 (A:=Ad v5 x5) hv1 hn1 hb1
    obtain ⟨v6,rfl,hC9⟩:=st77_own hC8
    refine A8 (vs:=[(.agg #[(I x5.1),v6])]) hC9 Ao ty77 z z z z (fac z<|fa0) z z (fun b4 w6 hC10 hB5=>?_)
    have hC11:=hC10.row0 (α:=(Int × (List Int)))
    have hC13:=hC11.f2
    have hC12:=Cm x5.1 v6 x5.2 hC13
    have hC14:=hC12.row1
    have hC15:=hC14.front 1 z
    dsimp only [List.eraseIdx,List.cons_append,List.nil_append,List.append_nil] at hC15
    have hC16:Ctx [] w0 w6 (Ad (.slice (some ⟨b4,0,none⟩) 1 1) ([(x5.1,x5.2)]:List (Int × (List Int)))::[Ai b3 [(I x4.1),v4],Ad v1 (x1:(List (Int × (List Int))))]):=hC15.rowOwn (by simp [maxLen])
    refine be hL1 fun x6 hx2 hL1=>BA hC16 1 z Ao ty77 z hx2 z z z fun v7 w7 hC17=>?_
    try dsimp only [List.set] at hC17
    exact Ae z z<|Ab<|AJ<|Aj<|AX<|Be z z z<|Af z z<|Ab<|have hC19:=hC17.f1;have hC20:=hC19.h1;An (l':=[(3,v7),(7,u1),(8,(I (List.length a1:Int))),(9,(I (w64 (x2+1))))]) ⟨z,z,z,z,Ah⟩<|⟨k1,Az _,v7,x6,w64 (x2+1),z,hC20,hL1⟩
   replace hL1:=AA hL1 hc1
   refine Bm (A2 (A2 (AT ?_)))
   obtain rfl:=Aa hL1
   exact An (l':=[(3,v1)]) ⟨z,Ah⟩<|⟨v1,x1,z,z,hC5⟩
 rintro l2 _ w9 hs2 ⟨v2,x3,rfl,rfl,hC21⟩
 try dsimp only at hF
 refine AO hs2 ?_
 clear hs2
 refine Ac<|Af z z<|Ae z z<|Ab<|AC<|?_
 obtain rfl:=Aa hF
 exact Ay z z<|⟨_,z,B7 hC21 0 z⟩
theorem c_M_matches_c1 {w0:World} (a1:(Int × (List Int))) (u1:Value) (g1:RO [] w0 u1 a1.2) (pb1:Nat) (ax1:(Int × (List Int) × Int × Int × Int)) (g2:ROAt [] w0 pb1 0 ax1) (pb2:Nat) (ax2:(Int × (List Int))) (g3:ROAt [] w0 pb2 0 ax2) (rr:Bool) (hF:M.matches_c1 a1 ax1 ax2=some rr) :
 Calls Tryz.prog 196 [(.agg #[(I a1.1),u1]),(ptr pb1 0),(ptr pb2 0)].toArray w0 fun e w'=>∃v,e=.returned v∧Res w0 rr v w':=by
 refine Aw Tryz.func196 z z ?_
 have hC0:=A1 w0
 unfold M.matches_c1 at hF
 refine Ac<|Bb (cs:=[(I a1.1),u1]) hC0 z z z fun b1 w1 hC1 hB1 hN1=>Ae z z<|Ab<|A0<|Ac<|fd AF A5 z z z z<|Al hC1 0 z z AV z z<|fd AK A5 z z z z<|AH ty3 g2.fst hC1.keep z z fun v1 h1=>?_
 obtain rfl:=By h1
 refine BI z z z<|Ab<|A7 z (fun hc1=>?_) (fun hc1=>?_)
 ·replace hF:=A9 hF hc1
  refine Ac<|Ae z z<|Ab<|AC<|Ar<|?_
  obtain rfl:=Aa hF
  exact Ay z z<|⟨_,z,AD hC1 _⟩
 replace hF:=AA hF hc1
 refine A6<|Aj<|A0<|Ac<|fd AK Au z z z z<|AH ty24 g2.snd.fst hC1.keep z z fun v2 h2=>AL Ag h2 z z<|Af z z<|Ab<|be hF fun r1 hr1 hF=>Bf (fun l w=>.inl ()=r1∧l=[]∧Below w1.heap.size w1 w∧Ctx [] w0 w []) ?_ ?_
 ·refine AB<|wS (l':=[(2,(ptr pb2 0)),(3,(ptr b1 0)),(13,v2),(14,(I (List.length ax1.2.1:Int))),(15,(I 0))]) ⟨z,z,z,z,z,Ah⟩<|Bo (fun k l w=>∃x1:Int,l=[(2,(ptr pb2 0)),(3,(ptr b1 0)),(13,v2),(14,(I (List.length ax1.2.1:Int))),(15,(I x1))]∧Below w1.heap.size w1 w∧Ctx [] w0 w [Ai b1 [(I a1.1),u1]]∧M.matches_c1_l1 ax1 a1 ax2 k x1=some r1) FUEL ⟨0,z,(Am _ _),hC1,hr1⟩<|?_
  clear hr1
  rintro k1 _ w2 ⟨x1,rfl,hB2,hC2,hL1⟩
  cases k1 with
  | zero=>rw [M.matches_c1_l1] at hL1; cases hL1
  | succ k1 =>
   rw [M.matches_c1_l1] at hL1
   refine Ac<|AW z z z<|Ab<|A0<|A7 z (fun hc2=>?_) (fun hc2=>?_)
   ·replace hL1:=A9 hL1 hc2
    refine A6<|Aj<|A0<|AB<|Ac<|Af z z<|be hL1 fun x2 hx1 hL1=>AE Ag ty3 h2 hx1 z z z fun b2 o1 h3=>AH ty3 h3 hC2.keep z z fun v3 h4=>?_
    obtain rfl:=By h4
    refine Ae z z<|Ae z z<|Ab<|A0<|W_drawn 11 z hmix fun w3 hB3=>have hC3:=hC2.grow hB3;tf 0 AF Au z z z z z<|tm 2 z z z<|tf 5 Bd Au z z z z z<|tm 7 z z z<|be hL1 fun x3 hx2 hL1=>be hL1 fun x4 hx3 hL1=>wAS (l':=[(2,(ptr pb2 0)),(3,(ptr b1 0)),(5,(I x1)),(6,(I x2)),(13,v2),(14,(I (List.length ax1.2.1:Int))),(15,(I x1)),(16,(.bool (decide (x1 < (List.length ax1.2.1:Int))))),(17,(I x1)),(18,(ptr b2 o1)),(19,(I x2)),(20,(ptr b1 1)),(22,(I x2)),(25,(ptr pb2 (0+1))),(27,(I x1))]) ⟨z,z,z,z,z,z,z,z,z,z,z,z,z,z,z,Ah⟩<|Bq [⟨1,[],fun vs=>Bg u1,[]⟩,⟨3,[],fun vs=>Cj [] w0 x3,[]⟩,⟨4,[],fun vs=>Bg (I x3),[]⟩,⟨6,[],fun vs=>Cc [] w0 ax2.2,[]⟩,⟨8,[],fun vs=>Cj [] w0 x4,[]⟩,⟨9,[],fun vs=>Bg (I x4),[]⟩] [[],[1],[3],[],[6],[8]] 1 z (by kernel_rfl) (by kernel_rfl) z ?_ ?_
    ·refine Aq z ?_ ?_
     ·intro w4 hB4
      refine Ax<|⟨_,z,?_⟩
      exact Al (hC3.grow hB4) 0 z z At z z<|Ab<|A3 (Am _ _) z z ⟨z,z⟩
     refine Aq z ?_ ?_
     ·intro w4 hB4
      refine AN z z z ?_
      rintro _ _ ⟨rfl,rfl⟩ _
      refine Ax<|⟨_,z,?_⟩
      exact AE Ag ty3 g1 hx2 z z z fun b3 o2 h5=>Ab<|A3 (Am _ _) z z ⟨z,_,_,z,h5⟩
     refine Aq z ?_ ?_
     ·intro w4 hB4
      refine AN z z z ?_
      rintro _ _ ⟨rfl,b3,o2,rfl,h5⟩ _
      refine Ax<|⟨_,z,?_⟩
      refine AH ty3 h5 (hC3.keep.then hB4) z z (fun v4 h6=>?_)
      obtain rfl:=By h6
      exact Ab<|A3 (Am _ _) z z ⟨z,z⟩
     refine Aq z ?_ ?_
     ·intro w4 hB4
      refine Ax<|⟨_,z,?_⟩
      exact AH ty24 g3.snd (hC3.keep.then hB4) z z fun v5 h7=>Ab<|A3 (Am _ _) z z ⟨z,h7⟩
     refine Aq z ?_ ?_
     ·intro w4 hB4
      refine AN z z z ?_
      rintro v5 _ ⟨rfl,h7⟩ _
      refine Ax<|⟨_,z,?_⟩
      exact AE Ag ty3 h7 hx3 z z z fun b4 o3 h8=>Ab<|A3 (Am _ _) z z ⟨z,_,_,z,h8⟩
     refine Aq z ?_ ?_
     ·intro w4 hB4
      refine AN z z z ?_
      rintro _ _ ⟨rfl,b4,o3,rfl,h8⟩ _
      refine Ax<|⟨_,z,?_⟩
      refine AH ty3 h8 (hC3.keep.then hB4) z z (fun v6 h9=>?_)
      obtain rfl:=By h9
      exact Ab<|A3 (Am _ _) z z ⟨z,z⟩
     exact Bl
    intro w5 hB5
    refine Av z z z ?_
    rintro _ _ ⟨rfl,rfl⟩
    refine Av z z z ?_
    rintro _ _ ⟨rfl,b3,o2,rfl,h5⟩
    refine Av z z z ?_
    rintro _ _ ⟨rfl,rfl⟩
    refine Av z z z ?_
    rintro v5 _ ⟨rfl,h7⟩
    refine Av z z z ?_
    rintro _ _ ⟨rfl,b4,o3,rfl,h8⟩
    refine Av z z z ?_
    rintro _ _ ⟨rfl,rfl⟩
    refine Bv fun hn1 hb1=>have hC4:=hC3.grow hB5;tk 10 z z (CZ z z)<|BI z z z<|Ab<|dn<|Aj<|A7 z (fun hc3=>?_) (fun hc3=>?_)
    ·replace hL1:=A9 hL1 hc3
     refine Ac<|Ae z z<|Ab<|AC<|AU<|Ar<|Ar<|AU<|Ar<|Ar<|?_
     obtain rfl:=Aa hL1
     dsimp only at hF
     obtain rfl:=Aa hF
     exact Ay z z<|⟨_,z,AD hC4 _⟩
    replace hL1:=AA hL1 hc3
    exact A6<|AJ<|Aj<|AX<|Be z z z<|Af z z<|Ab<|An (l':=[(2,(ptr pb2 0)),(3,(ptr b1 0)),(13,v2),(14,(I (List.length ax1.2.1:Int))),(15,(I (w64 (x1+1))))]) ⟨z,z,z,z,z,Ah⟩<|⟨k1,Az _,w64 (x1+1),z,(((Ap hB2).then hB3).then hB5).below,hC4,hL1⟩
   replace hL1:=AA hL1 hc2
   refine Bm (A2 (A2 (AT ?_)))
   obtain rfl:=Aa hL1
   have hC5:=hC2.h0
   exact An (l':=[]) Ah<|⟨z,z,(Ap hB2).below,hC5⟩
 rintro l2 _ w6 hs2 ⟨rfl,rfl,hB6,hC6⟩
 try dsimp only at hF
 refine AO hs2 ?_
 clear hs2
 refine Ac<|Ae z z<|Ab<|AC<|?_
 obtain rfl:=Aa hF
 exact Ay z z<|⟨_,z,AD hC6 _⟩
theorem c_Slices_IndexFunc_Limpl_Fact_impl_Fact_M_matches_c1 {w0:World} (a1:(List (Int × (List Int)))) (u1:Value) (g1:RO [] w0 u1 a1) (pb1:Nat) (ax1:(Int × (List Int) × Int × Int × Int)) (g2:ROAt [] w0 pb1 0 ax1) (pb2:Nat) (ax2:(Int × (List Int))) (g3:ROAt [] w0 pb2 0 ax2) (rr:Int) (hF:Slices.IndexFunc_Limpl_Fact_impl_Fact_M_matches_c1 a1 ax1 ax2=some rr) :
 Calls Tryz.prog 189 [u1,(.func (.func 196) #[] #[(ptr pb1 0),(ptr pb2 0)])].toArray w0 fun e w'=>∃v,e=.returned v∧Res w0 rr v w':=by
 refine Aw CK z z ?_
 have hC0:=A1 w0
 unfold Slices.IndexFunc_Limpl_Fact_impl_Fact_M_matches_c1 at hF
 refine Ac<|Ae z z<|Ab<|A0<|Ac<|Af z z<|AL Ao g1 z z<|Af z z<|Ab<|be hF fun r1 hr1 hF=>Bf (fun l w=>.inl ()=r1∧l=[]∧Below w0.heap.size w0 w∧Ctx [] w0 w []) ?_ ?_
 ·refine AB<|wS (l':=[(0,u1),(1,(.func (.func 196) #[] #[(ptr pb1 0),(ptr pb2 0)])),(7,(I (List.length a1:Int))),(8,(I 0))]) ⟨z,z,z,z,Ah⟩<|Bo (fun k l w=>∃x1:Int,l=[(0,u1),(1,(.func (.func 196) #[] #[(ptr pb1 0),(ptr pb2 0)])),(7,(I (List.length a1:Int))),(8,(I x1))]∧Below w0.heap.size w0 w∧Ctx [] w0 w []∧Slices.IndexFunc_Limpl_Fact_impl_Fact_M_matches_c1_l1 a1 ax1 ax2 k x1=some r1) FUEL ⟨0,z,(Am _ _),hC0,hr1⟩<|?_
  clear hr1
  rintro k1 _ w1 ⟨x1,rfl,hB1,hC1,hL1⟩
  cases k1 with
  | zero=>rw [Slices.IndexFunc_Limpl_Fact_impl_Fact_M_matches_c1_l1] at hL1; cases hL1
  | succ k1 =>
   rw [Slices.IndexFunc_Limpl_Fact_impl_Fact_M_matches_c1_l1] at hL1
   refine Ac<|AW z z z<|Ab<|A0<|A7 z (fun hc1=>?_) (fun hc1=>?_)
   ·replace hL1:=A9 hL1 hc1
    refine A6<|Aj<|A0<|AB<|Ac<|Af z z<|Ae z z<|Ab<|Ac<|Af z z<|Af z z<|Af z z<|be hL1 fun x2 hx1 hL1=>AE Ao ty77 g1 hx1 z z z fun b1 o1 h1=>AH ty77 h1 hC1.keep z z fun v1 h2=>?_
    obtain ⟨v2,rfl,h3⟩:=BM h2
    refine be hL1 fun x3 hr2 hL1=>BQ (cap:=[(ptr pb1 0),(ptr pb2 0)]) Tryz.call196 z z z (c_M_matches_c1 x2 v2 (h3.now hC1.keep) pb1 ax1 (g2.now hC1.keep) pb2 ax2 (g3.now hC1.keep) x3 hr2) fun _ w2 hv1=>?_
    obtain ⟨rfl,hB2⟩:=BR hv1
    have hC2:=hC1.grow hB2
    refine Ab<|A7 z (fun hc2=>?_) (fun hc2=>?_)
    ·replace hL1:=A9 hL1 hc2
     refine Ac<|Af z z<|Ae z z<|Ab<|AC<|AU<|Ar<|Ar<|AU<|Ar<|Ar<|?_
     obtain rfl:=Aa hL1
     dsimp only at hF
     obtain rfl:=Aa hF
     exact Ay z z<|⟨_,z,Bk hC2 _⟩
    replace hL1:=AA hL1 hc2
    exact A6<|AJ<|Aj<|AX<|Be z z z<|Af z z<|Ab<|An (l':=[(0,u1),(1,(.func (.func 196) #[] #[(ptr pb1 0),(ptr pb2 0)])),(7,(I (List.length a1:Int))),(8,(I (w64 (x1+1))))]) ⟨z,z,z,z,Ah⟩<|⟨k1,Az _,w64 (x1+1),z,((Ap hB1).then hB2).below,hC2,hL1⟩
   replace hL1:=AA hL1 hc1
   refine Bm (A2 (A2 (AT ?_)))
   obtain rfl:=Aa hL1
   exact An (l':=[]) Ah<|⟨z,z,(Ap hB1).below,hC1⟩
 rintro l2 _ w3 hs2 ⟨rfl,rfl,hB3,hC3⟩
 try dsimp only at hF
 refine AO hs2 ?_
 clear hs2
 refine Ac<|Ae z z<|Ab<|AC<|?_
 obtain rfl:=Aa hF
 exact Ay z z<|⟨_,z,Bk hC3 _⟩
theorem c_Slices_DeleteFunc_Limpl_Fact_impl_Fact_M_matches_c1 {Fs:List (List Nat)} {w0:World} (a1:(List (Int × (List Int)))) (u1:Value) (pb1:Nat) (ax1:(Int × (List Int) × Int × Int × Int)) (g1:ROAt Fs.flatten w0 pb1 0 ax1) (pb2:Nat) (ax2:(Int × (List Int))) (g2:ROAt Fs.flatten w0 pb2 0 ax2) (hH:Hold [Ad u1 (a1:(List (Int × (List Int))))] w0 Fs) (hn:Fs.flatten.Nodup) (rr:(List (Int × (List Int)))) (hF:Slices.DeleteFunc_Limpl_Fact_impl_Fact_M_matches_c1 a1 ax1 ax2=some rr) :
 Calls Tryz.prog 195 [u1,(.func (.func 196) #[] #[(ptr pb1 0),(ptr pb2 0)])].toArray w0 fun e w'=>∃v,e=.returned v∧∃q0:Value,v=q0∧Ctx Fs.flatten w0 w' [Ad q0 (rr:(List (Int × (List Int))))]:=by
 refine Aw Tryz.func195 z z ?_
 have hC0:=BV hH hn
 unfold Slices.DeleteFunc_Limpl_Fact_impl_Fact_M_matches_c1 at hF
 refine be hF fun x hx hF=>Ac<|Ae z z<|Ab<|Ac<|Af z z<|Af z z<|ci CL z z (c_Slices_IndexFunc_Limpl_Fact_impl_Fact_M_matches_c1 a1 u1 (hC0.ro 0 z) pb1 ax1 (g1.now (AP _ _)) pb2 ax2 (g2.now (AP _ _)) x hx) fun w1 hB1=>have hC1:=hC0.grow hB1;Ae z z<|Ab<|A0<|Ac<|Af z z<|Ca z z z<|?_
 by_cases hx1:x=-1
 ·rw [if_pos hx1] at hF
  obtain rfl:=Aa hF
  rw [decide_eq_true hx1]
  exact Ab<|CA z<|Ac<|Af z z<|Ae z z<|Ab<|AC<|Ar<|Ay z z<|⟨_,z,_,z,hC1⟩
 rw [if_neg hx1] at hF
 have hr:0 ≤ x∧x < (a1.length:Int):=Classical.byContradiction fun h=>by rw [if_neg h] at hF; cases hF
 rw [if_pos hr] at hF
 obtain ⟨m,rfl⟩:∃m:Nat,x=m:=⟨x.toNat,by omega⟩
 have hm:m < a1.length:=by omega
 have hlim:=(hC0.ro 0 z).lt
 simp only [maxLen] at hlim
 rw [Int.toNat_natCast] at hF
 rw [decide_eq_false hx1]
 refine Ab<|CB z<|A6<|Aj<|A0<|Ac<|Af z z<|Be z z z<|?_
 rw [show w64 ((m:Int)+1)=((m+1:Nat):Int) by rw [w64_id (by omega) (by omega)]; omega]
 refine Ae z z<|Ab<|?_
 obtain ⟨b,c,rfl,hc1,hc2,hD0⟩:=hC1.del_open hm
 have hml:(a1.take m).length=m:=by rw [List.length_take]; omega
 refine Bf (fun l w=>∃kept:List (Int × (List Int)),∃g:Nat,l=[(0,.slice (some ⟨b,0,none⟩) a1.length c),(5,.int .i64 (kept.length:Int))]∧0 < g∧kept.length+g=a1.length∧kept=rr∧Ctx Fs.flatten w0 w [Item.del b c kept g ([]:List (Int × (List Int)))]) ?_ ?_
 ·refine AB<|wS (l':=[(0,.slice (some ⟨b,0,none⟩) a1.length c),(1,(.func (.func 196) #[] #[(ptr pb1 0),(ptr pb2 0)])),(5,.int .i64 (m:Int)),(6,.int .i64 ((m+1:Nat):Int))]) ⟨z,z,z,z,Ah⟩<|Bo (fun k l w=>∃kept:List (Int × (List Int)),∃g:Nat,∃rest:List (Int × (List Int)),l=[(0,.slice (some ⟨b,0,none⟩) a1.length c),(1,(.func (.func 196) #[] #[(ptr pb1 0),(ptr pb2 0)])),(5,.int .i64 (kept.length:Int)),(6,.int .i64 ((kept.length+g:Nat):Int))]∧0 < g∧kept.length+g+rest.length=a1.length∧dfl (fun e=>M.matches_c1 e ax1 ax2) kept rest=some rr∧k=rest.length∧Ctx Fs.flatten w0 w [Item.del b c kept g rest]) (a1.drop (m+1)).length ⟨a1.take m,1,a1.drop (m+1),by rw [hml],by omega,by rw [hml,List.length_drop]; omega,hF,z,hD0⟩<|?_
  clear hF hD0
  rintro k1 _ w2 ⟨kept,g,rest,rfl,hg,hlen,hL,hk,hD⟩
  refine A0<|Ac<|Af z z<|Af z z<|WL_len_raw Ao z z<|AW z z z<|?_
  cases rest with
  | nil =>
   have hq:=Aa hL
   simp only [List.length_nil,Nat.add_zero] at hlen
   rw [decide_eq_false (show ¬ ((kept.length+g:Nat):Int) < (a1.length:Int) by omega)]
   exact Ab<|CB z<|Bm<|A2<|A2<|AT<|An (l':=[(0,.slice (some ⟨b,0,none⟩) a1.length c),(5,.int .i64 (kept.length:Int))]) ⟨z,z,Ah⟩<|⟨kept,g,z,hg,hlen,hq,hD⟩
  | cons x rest =>
   simp only [List.length_cons] at hlen hk
   rw [decide_eq_true (show ((kept.length+g:Nat):Int) < (a1.length:Int) by omega)]
   refine Ab<|CA z<|A6<|Aj<|A0<|AB<|Ac<|Af z z<|Af z z<|WL_index_raw Ao ty77 (show kept.length+g < a1.length by omega) z z z<|?_
   obtain ⟨cs,hcs,hD1⟩:=hD.del_head
   obtain ⟨hro,row,T,hh,hrow⟩:=hD1.delh_row
   refine WL_load_raw ty77 hh (by rw [Nat.zero_add]; exact hrow) hcs z z ?_
   obtain ⟨e1,hce,_⟩:=BM hro
   obtain rfl:=cells_of_agg (cs':=[(I x.1),e1]) hce
   rw [show mkv (Rep.agg (Int × (List Int))) [(I x.1),e1]=(.agg #[(I x.1),e1]) from z]
   refine WL_alloc hD1 zero77 z z (fun b7 w3 hD2 hB2=>?_)
   have phr:=hD2.delh_ro (α:=(Int × (List Int))) 1 z
   obtain ⟨pf0,phe,pg0⟩:=BM phr
   replace phe:=cells_of_agg (cs:=[(I x.1),e1]) (cs':=[(I x.1),pf0]) phe
   simp only [List.cons.injEq,and_true,true_and] at phe
   obtain rfl:=phe
   refine WL_store_box_agg (cs':=[(I x.1),e1]) (new:=[(I x.1),e1]) hD2 0 z z (fac z<|fac (B1 pg0)<|fa0) z Br z z (fun w4 hD3=>?_)
   try dsimp only [List.set] at hD3
   refine Ab<|Ac<|Af z z<|A4 [(I x.1),e1] hD3 0 z z z B4 Br z z<|?_
   have qhr:=hD3.delh_ro (α:=(Int × (List Int))) 1 z
   obtain ⟨qf0,qhe,qg0⟩:=BM qhr
   replace qhe:=cells_of_agg (cs:=[(I x.1),e1]) (cs':=[(I x.1),qf0]) qhe
   simp only [List.cons.injEq,and_true,true_and] at qhe
   obtain rfl:=qhe
   obtain ⟨q,hq,hL⟩:=bind_some (show (M.matches_c1 x ax1 ax2).bind (fun b=>dfl (fun e=>M.matches_c1 e ax1 ax2) (if b then kept else kept ++ [x]) rest)=some rr from hL)
   refine BQ (cap:=[(ptr pb1 0),(ptr pb2 0)]) Tryz.call196 z z z (c_M_matches_c1 x e1 qg0 pb1 ax1 (g1.now hD3.keep) pb2 ax2 (g2.now hD3.keep) q hq) ?_
   intro _ w5 hv2
   obtain ⟨rfl,hB5⟩:=BR hv2
   have hD4:=hD3.grow hB5
   refine Bw z z<|Ab<|A7 z (fun hq1=>?_) (fun hq1=>?_)
   ·have hqf:q=false:=by simpa using hq1
    rw [hqf] at hL
    rw [if_neg (by simp)] at hL
    refine Ac<|Af z z<|Af z z<|A4 [(I x.1),e1] hD4 0 z z z B4 Br z z<|WL_index_raw Ao ty77 (show kept.length < a1.length by omega) z z z<|WL_store_del hD4.swap hg ty77 z z z fun w6 hD5=>Ab<|AX<|Af z z<|Be z z z<|?_
    rw [show w64 ((kept.length:Int)+1)=((kept ++ [x]).length:Int) by rw [w64_id (by omega) (by omega),List.length_append]; rfl]
    refine Ae z z<|Ab<|AJ<|Aj<|AX<|Af z z<|Be z z z<|?_
    rw [show w64 (((kept.length+g:Nat):Int)+1)=(((kept ++ [x]).length+g:Nat):Int) by rw [w64_id (by omega) (by omega),List.length_append]; simp only [List.length_cons,List.length_nil]; omega]
    exact Ae z z<|Ab<|An (l':=[(0,.slice (some ⟨b,0,none⟩) a1.length c),(1,(.func (.func 196) #[] #[(ptr pb1 0),(ptr pb2 0)])),(5,.int .i64 ((kept ++ [x]).length:Int)),(6,.int .i64 (((kept ++ [x]).length+g:Nat):Int))]) ⟨z,z,z,z,Ah⟩<|⟨rest.length,by omega,kept ++ [x],g,rest,z,hg,by rw [List.length_append]; simp only [List.length_cons,List.length_nil]; omega,hL,z,hD5.headN 1⟩
   have hqt:q=true:=by simpa using hq1
   rw [hqt] at hL
   rw [if_pos z] at hL
   refine A6<|AJ<|Aj<|AX<|Af z z<|Be z z z<|?_
   rw [show w64 (((kept.length+g:Nat):Int)+1)=((kept.length+(g+1):Nat):Int) by rw [w64_id (by omega) (by omega)]; omega]
   refine Ae z z<|Ab<|An (l':=[(0,.slice (some ⟨b,0,none⟩) a1.length c),(1,(.func (.func 196) #[] #[(ptr pb1 0),(ptr pb2 0)])),(5,.int .i64 (kept.length:Int)),(6,.int .i64 ((kept.length+(g+1):Nat):Int))]) ⟨z,z,z,z,Ah⟩<|?_
   have hD5:=(hD4.swap.headN 1).del_skip
   exact ⟨rest.length,by omega,kept,g+1,rest,z,by omega,by omega,hL,z,hD5⟩
 rintro l2 _ w8 hs2 ⟨kept,g,rfl,hg,hlen,rfl,hD⟩
 refine AO hs2 ?_
 clear hs2
 exact Ac<|Af z z<|Af z z<|Cw Ao ty77 (show kept.length < c by omega) (show kept.length ≤ a1.length by omega) hc1 z z z<|WL_clear_del hD Ao ty77 zc77 (fac z<|fac z<|fa0) hlen.symm z hg fun w9 hD9=>Ab<|Ac<|Af z z<|Af z z<|WL_sl_h Ao ty77 (hi:=kept.length) (by omega) (by omega) z z z<|Ae z z<|Ab<|AC<|Ay z z<|⟨_,z,_,z,hD9⟩
theorem c_M_matches {w0:World} (a1:(List (Int × (List Int) × Int × Int × Int))) (u1:Value) (g1:RO [] w0 u1 a1) (a2:(List (Int × (List Int)))) (u2:Value) (g2:RO [] w0 u2 a2) (a3:(Int × (List Int))) (u3:Value) (g3:RO [] w0 u3 a3.2) (rr:(List (Int × (List Int)))) (hF:M.matches a1 a2 a3=some rr) :
 Calls Tryz.prog 149 [u1,u2,(.agg #[(I a3.1),u3])].toArray w0 fun e w'=>∃v,e=.returned v∧Res w0 rr v w':=by
 refine Aw Tryz.func149 z z ?_
 have hC0:=A1 w0
 unfold M.matches at hF
 refine Ac<|Bb (cs:=[(I a3.1),u3]) hC0 z z z fun b1 w1 hC1 hB1 hN1=>Ae z z<|Ab<|Ac<|Af z z<|fd Bd A5 z z z z<|Al hC1 0 z z AV z z<|be hF fun x1 hx1 hF=>AE Bi ty110 g1 hx1 z z z fun b2 o1 h1=>AH ty110 h1 hC1.keep z z fun v1 h2=>?_
 obtain ⟨v2,rfl,h3⟩:=CX h2
 refine B0 hC1 zero110 z z fun b3 w2 hC2 hB2 hN2=>AS (cs':=[(I x1.1),v2,(I x1.2.2.1),(I x1.2.2.2.1),(I x1.2.2.2.2)]) (new:=[(I x1.1),v2,(I x1.2.2.1),(I x1.2.2.2.1),(I x1.2.2.2.2)]) hC2 0 z z (fac z<|fac (B1 h3)<|fac z<|fac z<|fac z<|fa0) z BT z z fun w3 hC3 hKp1=>?_
 try dsimp only [List.set] at hC3
 have hk1:=AI ((Ap hB1).then hB2) (AM (Ap hB1).size hN2) hKp1
 have hk2:=AI (Ap hB2) hN2 hKp1
 refine Ab<|Ac<|Af z z<|be hF fun x2 hr1 hF=>Bc Tryz.call104 z z (c_M_copyFacts a2 u2 (g2.now hC3.keep) x2 hr1)<|?_
 rintro v3 w4 ⟨hB3,F1,hv1,hn1,hb1⟩
 have hC4:=hC3.push hB3 (A:=Ad v3 x2) hv1 hn1 hb1
 refine BS z z<|be hF fun x3 hr2 hF=>?_
 obtain ⟨Fs1,hH1,hn2,hF1,hO1,hX1,hb2⟩:=Ctx.lend3 (As:=[Ai b3 [(I x1.1),v2,(I x1.2.2.1),(I x1.2.2.2.1),(I x1.2.2.2.2)],Ai b1 [(I a3.1),u3]]) [Ad v3 (x2:(List (Int × (List Int))))] hC4
 refine Bc Tryz.call195 z z (c_Slices_DeleteFunc_Limpl_Fact_impl_Fact_M_matches_c1 x2 v3 b3 (x1.1,x1.2.1,x1.2.2.1,x1.2.2.2.1,x1.2.2.2.2) (roat_box (hX1 0 _ _ z) (repd_pair repd_int (repd_pair (repd_slice (RO.lent h3 hC4.keep hF1)) (repd_pair repd_int (repd_pair repd_int repd_int))))) b1 (a3.1,a3.2) (roat_box (hX1 1 _ _ z) (repd_pair repd_int (repd_slice (RO.lent g3 hC4.keep hF1)))) hH1 hn2 x3 hr2) ?_
 rintro v4 w5 ⟨_,rfl,hq1⟩
 have hC6:Ctx [] w0 w5 [Ad v4 (x3:(List (Int × (List Int)))),Ai b3 [(I x1.1),v2,(I x1.2.2.1),(I x1.2.2.2.1),(I x1.2.2.2.2)],Ai b1 [(I a3.1),u3]]:=hb2 _ _ hq1
 refine Ae z z<|Ab<|AC<|?_
 obtain rfl:=Aa hF
 exact Ay z z<|⟨_,z,B7 hC6 0 z⟩
theorem c_M_FitsSelf {w0:World} (a1:(List Int)) (u1:Value) (g1:RO [] w0 u1 a1) (a2:(List (Int × (List Int) × Int × Int × Int))) (u2:Value) (g2:RO [] w0 u2 a2) (a3:((Int × (List Int)) × (List (Int × (List Int))))) (u3:Value) (g3:RO [] w0 u3 a3.1.2) (u4:Value) (g4:RO [] w0 u4 a3.2) (rr:Bool) (hF:M.FitsSelf a1 a2 a3=some rr) :
 Calls Tryz.prog 94 [u1,u2,(.agg #[(I a3.1.1),u3,u4])].toArray w0 fun e w'=>∃v,e=.returned v∧Res w0 rr v w':=by
 refine Aw Tryz.func94 z z ?_
 have hC0:=A1 w0
 unfold M.FitsSelf at hF
 refine Ac<|Bb (cs:=[(I a3.1.1),u3,u4]) hC0 z z z fun b1 w1 hC1 hB1 hN1=>Ae z z<|Ab<|A0<|Ac<|Af z z<|Af z z<|A4 [(I a3.1.1),u3,u4] hC1 0 z z z BF B3 z z<|be hF fun x1 hr1 hF=>cb Tryz.call148 z z (c_M_IsTold a1 u1 (g1.now hC1.keep) a2 u2 (g2.now hC1.keep) ((a3.1.1,a3.1.2),a3.2) u3 (g3.now hC1.keep) u4 (g4.now hC1.keep) x1 hr1) fun w2 hB2=>have hC2:=hC1.grow hB2;Bw z z<|Ab<|A7 z (fun hc1=>?_) (fun hc1=>?_)
 ·replace hF:=A9 hF hc1
  refine Ac<|Ae z z<|Ab<|AC<|Ar<|?_
  obtain rfl:=Aa hF
  exact Ay z z<|⟨_,z,AD hC2 _⟩
 replace hF:=AA hF hc1
 refine A6<|Aj<|Ac<|Af z z<|fd AQ Bu z z z z<|fd Bd A5 z z z z<|Al hC2 0 z z AV z z<|be hF fun x2 hx1 hF=>AE Bi ty110 g2 hx1 z z z fun b2 o1 h1=>fd AK A5 z z z z<|AH ty3 h1.snd.snd.fst hC2.keep z z fun v1 h2=>?_
 obtain rfl:=By h2
 refine Ae z z<|Ab<|be hF fun r1 hr2 hF=>BH (fun l w=>∃x3:Bool,x3=r1∧l=[(6,(.bool x3))]∧Below w2.heap.size w2 w∧Ctx [] w0 w []) ?_ ?_
 ·refine W_drawn 23 z hmix fun w4 hB4=>have hC4:=hC2.grow hB4;tm 0 z z z<|tf 1 AQ Bx z z z z z<|tf 3 AQ Bu z z z z z<|tf 7 AQ Bx z z z z z<|be hr2 fun x4 hr3 hr2=>wAS (l':=[(0,u1),(1,u2),(2,(.agg #[(I a3.1.1),u3,u4])),(5,(ptr b1 0)),(6,(.bool false)),(7,(I x2.2.2.1)),(8,u1),(9,u2),(10,(.agg #[(I a3.1.1),u3,u4])),(11,(.bool x1)),(12,(.bool (!x1))),(13,u2),(14,(ptr b1 0)),(15,(ptr b1 0)),(16,(I a3.1.1)),(17,(ptr b2 o1)),(18,(ptr b2 (o1+2))),(19,(I x2.2.2.1)),(20,u2),(21,(ptr b1 2)),(23,(ptr b1 0)),(27,(ptr b1 2))]) ⟨z,z,z,z,z,z,z,z,z,z,z,z,z,z,z,z,z,z,z,z,z,z,Ah⟩<|Bq [⟨2,[],fun vs=>Bg u4,[]⟩,⟨4,[],fun vs=>Bg (.agg #[(I a3.1.1),u3]),[]⟩,⟨5,[],fun vs=>BX x4,[]⟩,⟨6,[],fun vs=>Bg (I (List.length x4:Int)),[]⟩,⟨8,[],fun vs=>Bg u4,[]⟩,⟨9,[],fun vs=>Bg (I (List.length a3.2:Int)),[]⟩] [[],[],[2,4],[5],[],[8]] 13 z (by kernel_rfl) (by kernel_rfl) z ?_ ?_
  ·refine Aq z ?_ ?_
   ·intro w6 hB6
    refine Ax<|⟨_,z,?_⟩
    exact Al (hC4.grow hB6) 0 z z B9 z z<|Ab<|A3 (Am _ _) z z ⟨z,z⟩
   refine Aq z ?_ ?_
   ·intro w6 hB6
    refine Ax<|⟨_,z,?_⟩
    exact A4 [(I a3.1.1),u3] (hC4.grow hB6) 0 z z z BZ Bu z z<|Ab<|A3 (Am _ _) z z ⟨z,z⟩
   refine Aq z ?_ ?_
   ·intro w6 hB6
    refine AN z z z ?_
    rintro _ _ ⟨rfl,rfl⟩ _
    refine AN z z z ?_
    rintro _ _ ⟨rfl,rfl⟩ _
    refine Ax<|⟨_,z,?_⟩
    refine Bc Tryz.call149 z z (c_M_matches a2 u2 (g2.now (hC4.keep.then hB6)) a3.2 u4 (g4.now (hC4.keep.then hB6)) (a3.1.1,a3.1.2) u3 (g3.now (hC4.keep.then hB6)) x4 hr3) ?_
    rintro v2 w5 ⟨hB5,F1,hv2,hn1,hb1⟩
    exact Ab<|BW hB5 z z hv2 hn1 hb1 (Val.inh hv2)
   refine Aq z ?_ ?_
   ·intro w6 hB6
    refine AN z z z fun v2 F1 hv2 _=>Ax<|⟨_,z,?_⟩
    exact AL Ao (CO hv2) z z<|Ab<|A3 (Am _ _) z z ⟨z,z⟩
   refine Aq z ?_ ?_
   ·intro w6 hB6
    refine Ax<|⟨_,z,?_⟩
    exact Al (hC4.grow hB6) 0 z z B9 z z<|Ab<|A3 (Am _ _) z z ⟨z,z⟩
   refine Aq z ?_ ?_
   ·intro w6 hB6
    refine AN z z z ?_
    rintro _ _ ⟨rfl,rfl⟩ _
    refine Ax<|⟨_,z,?_⟩
    exact AL Ao g4 z z<|Ab<|A3 (Am _ _) z z ⟨z,z⟩
   exact Bl
  intro w7 hB7
  refine Av z z z ?_
  rintro _ _ ⟨rfl,rfl⟩
  refine Av z z z ?_
  rintro _ _ ⟨rfl,rfl⟩
  refine Av z z z fun v2 F1 hv2=>Av z z z<|?_
  rintro _ _ ⟨rfl,rfl⟩
  refine Av z z z ?_
  rintro _ _ ⟨rfl,rfl⟩
  refine Av z z z ?_
  rintro _ _ ⟨rfl,rfl⟩
  refine Bv ?_
  intro hn2 hb2
  have hC5:=hC4.pushL hB7 (Bs:=[Ad v2 (x4:(List (Int × (List Int))))]) (Fs:=[F1]) ⟨F1,_,z,hv2,z⟩ (by simpa using hn2) (fun b h=>(hb2 b (by simpa using h)).1)
  refine tk 10 z z (Dy z z)<|Ca z z z<|Ab<|tm 11 z z z<|BP (fun hc2=>?_) (fun hc2=>?_)
  ·replace hr2:=A9 hr2 hc2
   refine tn 12 z z z z z<|tg 13 z z z z (Dy z z)<|Ak z z<|Ca z z z<|Ab<|tn 14 z z z z z<|BP (fun hc3=>?_) (fun hc3=>?_)
   ·replace hr2:=A9 hr2 hc3
    refine sk 15 z z z z z<|sk 16 z z z z z<|sk 17 z z z z z<|sk 18 z z z z z<|sk 19 z z z z z<|tg 20 z z z z (Ds z z)<|Ak z z<|Ba z z z<|Ab<|tp 21 z z z z<|ta 22 z z z<|dn<|?_
    obtain rfl:=Aa hr2
    have hC6:=hC5.h0
    exact An (l':=[(6,(.bool true))]) ⟨z,Ah⟩<|⟨true,z,z,((Ap hB4).then hB7).below,hC6⟩
   replace hr2:=AA hr2 hc3
   refine tg 15 z z z z (BG AQ z z (fun w=>⟨_,Bx w⟩) z)<|Ak z z<|fd AQ Bx z z z z<|Ab<|tn 18 z z z z z<|oe 16 z<|Ak z z<|Al hC5 1 z z B9 z z<|Ab<|tg 17 z z z z (fl_len Ao g4 z)<|Ak z z<|AL Ao g4 z z<|Ab<|tg 19 z z z z (fl_leq z z)<|Ak z z<|CQ z z z<|Ab<|tg 20 z z z z (Dt z z)<|Ak z z<|AY z z z<|Ab<|tp 21 z z z z<|ta 22 z z z<|dn<|?_
   obtain rfl:=Aa hr2
   have hC7:=hC5.h0
   exact An (l':=[(6,(.bool (decide ((List.length a3.2:Int) ≤ x2.2.2.1))))]) ⟨z,Ah⟩<|⟨(decide ((List.length a3.2:Int) ≤ x2.2.2.1)),z,z,((Ap hB4).then hB7).below,hC7⟩
  replace hr2:=AA hr2 hc2
  refine sk 12 z z z z z<|sk 13 z z z z z<|sk 14 z z z z z<|sk 15 z z z z z<|sk 16 z z z z z<|sk 17 z z z z z<|sk 18 z z z z z<|sk 19 z z z z z<|sk 20 z z z z z<|tq 21 z z z z<|ta 22 z z z<|dn<|?_
  obtain rfl:=Aa hr2
  have hC8:=hC5.h0
  exact An (l':=[(6,(.bool false))]) ⟨z,Ah⟩<|⟨false,z,z,((Ap hB4).then hB7).below,hC8⟩
 rintro _ w3 ⟨x3,rfl,rfl,hB3,hC3⟩
 try dsimp only at hF
 refine AC ?_
 obtain rfl:=Aa hF
 exact Ay z z<|⟨_,z,AD hC3 _⟩
theorem c_M_HasFact_c1 {w0:World} (a1:(Int × (List Int))) (u1:Value) (g1:RO [] w0 u1 a1.2) (pb1:Nat) (ax1:(Int × (List Int))) (g2:ROAt [] w0 pb1 0 ax1) (rr:Bool) (hF:M.HasFact_c1 a1 ax1=some rr) :
 Calls Tryz.prog 146 [(.agg #[(I a1.1),u1]),(ptr pb1 0)].toArray w0 fun e w'=>∃v,e=.returned v∧Res w0 rr v w':=by
 refine Aw Tryz.func146 z z ?_
 have hC0:=A1 w0
 unfold M.HasFact_c1 at hF
 refine Ac<|Bb (cs:=[(I a1.1),u1]) hC0 z z z fun b1 w1 hC1 hB1 hN1=>Ae z z<|Ab<|Ac<|A4 [(I a1.1),u1] hC1 0 z z z B4 Br z z<|AH ty77 g2 hC1.keep z z fun v1 h1=>?_
 obtain ⟨v2,rfl,h2⟩:=BM h1
 refine be hF fun x1 hr1 hF=>ci Tryz.call147 z z (c_M_CompareFacts (a1.1,a1.2) u1 (g1.now hC1.keep) ax1 v2 (h2.now hC1.keep) x1 hr1) fun w2 hB2=>have hC2:=hC1.grow hB2;Ca z z z<|Ae z z<|Ab<|AC<|?_
 obtain rfl:=Aa hF
 exact Ay z z<|⟨_,z,AD hC2 _⟩
theorem c_Slices_IndexFunc_Limpl_Fact_impl_Fact_M_HasFact_c1 {w0:World} (a1:(List (Int × (List Int)))) (u1:Value) (g1:RO [] w0 u1 a1) (pb1:Nat) (ax1:(Int × (List Int))) (g2:ROAt [] w0 pb1 0 ax1) (rr:Int) (hF:Slices.IndexFunc_Limpl_Fact_impl_Fact_M_HasFact_c1 a1 ax1=some rr) :
 Calls Tryz.prog 189 [u1,(.func (.func 146) #[] #[(ptr pb1 0)])].toArray w0 fun e w'=>∃v,e=.returned v∧Res w0 rr v w':=by
 refine Aw CK z z ?_
 have hC0:=A1 w0
 unfold Slices.IndexFunc_Limpl_Fact_impl_Fact_M_HasFact_c1 at hF
 refine Ac<|Ae z z<|Ab<|A0<|Ac<|Af z z<|AL Ao g1 z z<|Af z z<|Ab<|be hF fun r1 hr1 hF=>Bf (fun l w=>.inl ()=r1∧l=[]∧Below w0.heap.size w0 w∧Ctx [] w0 w []) ?_ ?_
 ·refine AB<|wS (l':=[(0,u1),(1,(.func (.func 146) #[] #[(ptr pb1 0)])),(7,(I (List.length a1:Int))),(8,(I 0))]) ⟨z,z,z,z,Ah⟩<|Bo (fun k l w=>∃x1:Int,l=[(0,u1),(1,(.func (.func 146) #[] #[(ptr pb1 0)])),(7,(I (List.length a1:Int))),(8,(I x1))]∧Below w0.heap.size w0 w∧Ctx [] w0 w []∧Slices.IndexFunc_Limpl_Fact_impl_Fact_M_HasFact_c1_l1 a1 ax1 k x1=some r1) FUEL ⟨0,z,(Am _ _),hC0,hr1⟩<|?_
  clear hr1
  rintro k1 _ w1 ⟨x1,rfl,hB1,hC1,hL1⟩
  cases k1 with
  | zero=>rw [Slices.IndexFunc_Limpl_Fact_impl_Fact_M_HasFact_c1_l1] at hL1; cases hL1
  | succ k1 =>
   rw [Slices.IndexFunc_Limpl_Fact_impl_Fact_M_HasFact_c1_l1] at hL1
   refine Ac<|AW z z z<|Ab<|A0<|A7 z (fun hc1=>?_) (fun hc1=>?_)
   ·replace hL1:=A9 hL1 hc1
    refine A6<|Aj<|A0<|AB<|Ac<|Af z z<|Ae z z<|Ab<|Ac<|Af z z<|Af z z<|Af z z<|be hL1 fun x2 hx1 hL1=>AE Ao ty77 g1 hx1 z z z fun b1 o1 h1=>AH ty77 h1 hC1.keep z z fun v1 h2=>?_
    obtain ⟨v2,rfl,h3⟩:=BM h2
    refine be hL1 fun x3 hr2 hL1=>BQ (cap:=[(ptr pb1 0)]) Tryz.call146 z z z (c_M_HasFact_c1 x2 v2 (h3.now hC1.keep) pb1 ax1 (g2.now hC1.keep) x3 hr2) fun _ w2 hv1=>?_
    obtain ⟨rfl,hB2⟩:=BR hv1
    have hC2:=hC1.grow hB2
    refine Ab<|A7 z (fun hc2=>?_) (fun hc2=>?_)
    ·replace hL1:=A9 hL1 hc2
     refine Ac<|Af z z<|Ae z z<|Ab<|AC<|AU<|Ar<|Ar<|AU<|Ar<|Ar<|?_
     obtain rfl:=Aa hL1
     dsimp only at hF
     obtain rfl:=Aa hF
     exact Ay z z<|⟨_,z,Bk hC2 _⟩
    replace hL1:=AA hL1 hc2
    exact A6<|AJ<|Aj<|AX<|Be z z z<|Af z z<|Ab<|An (l':=[(0,u1),(1,(.func (.func 146) #[] #[(ptr pb1 0)])),(7,(I (List.length a1:Int))),(8,(I (w64 (x1+1))))]) ⟨z,z,z,z,Ah⟩<|⟨k1,Az _,w64 (x1+1),z,((Ap hB1).then hB2).below,hC2,hL1⟩
   replace hL1:=AA hL1 hc1
   refine Bm (A2 (A2 (AT ?_)))
   obtain rfl:=Aa hL1
   exact An (l':=[]) Ah<|⟨z,z,(Ap hB1).below,hC1⟩
 rintro l2 _ w3 hs2 ⟨rfl,rfl,hB3,hC3⟩
 try dsimp only at hF
 refine AO hs2 ?_
 clear hs2
 refine Ac<|Ae z z<|Ab<|AC<|?_
 obtain rfl:=Aa hF
 exact Ay z z<|⟨_,z,Bk hC3 _⟩
theorem c_Slices_ContainsFunc_Limpl_Fact_impl_Fact_M_HasFact_c1 {w0:World} (a1:(List (Int × (List Int)))) (u1:Value) (g1:RO [] w0 u1 a1) (pb1:Nat) (ax1:(Int × (List Int))) (g2:ROAt [] w0 pb1 0 ax1) (rr:Bool) (hF:Slices.ContainsFunc_Limpl_Fact_impl_Fact_M_HasFact_c1 a1 ax1=some rr) :
 Calls Tryz.prog 145 [u1,(.func (.func 146) #[] #[(ptr pb1 0)])].toArray w0 fun e w'=>∃v,e=.returned v∧Res w0 rr v w':=by
 refine Aw Tryz.func145 z z ?_
 have hC0:=A1 w0
 unfold Slices.ContainsFunc_Limpl_Fact_impl_Fact_M_HasFact_c1 at hF
 refine Ac<|Ae z z<|Ab<|Ac<|Af z z<|Af z z<|be hF fun x1 hr1 hF=>ci CL z z (c_Slices_IndexFunc_Limpl_Fact_impl_Fact_M_HasFact_c1 a1 u1 (g1.now hC0.keep) pb1 ax1 (g2.now hC0.keep) x1 hr1) fun w1 hB1=>have hC1:=hC0.grow hB1;Cu z z z<|Ae z z<|Ab<|AC<|?_
 obtain rfl:=Aa hF
 exact Ay z z<|⟨_,z,AD hC1 _⟩
theorem c_M_HasFact {w0:World} (a1:(List (Int × (List Int)))) (u1:Value) (g1:RO [] w0 u1 a1) (a2:(Int × (List Int))) (u2:Value) (g2:RO [] w0 u2 a2.2) (rr:Bool) (hF:M.HasFact a1 a2=some rr) :
 Calls Tryz.prog 93 [u1,(.agg #[(I a2.1),u2])].toArray w0 fun e w'=>∃v,e=.returned v∧Res w0 rr v w':=by
 refine Aw Tryz.func93 z z ?_
 have hC0:=A1 w0
 unfold M.HasFact at hF
 refine Ac<|Bb (cs:=[(I a2.1),u2]) hC0 z z z fun b1 w1 hC1 hB1 hN1=>Ae z z<|Ab<|Ac<|Af z z<|BS z z<|be hF fun x1 hr1 hF=>cb Tryz.call145 z z (c_Slices_ContainsFunc_Limpl_Fact_impl_Fact_M_HasFact_c1 a1 u1 (g1.now hC1.keep) b1 (a2.1,a2.2) (hC1.boxAt 0 z (repw_pair repw_int (repw_slice (g2.now hC1.keep)))) x1 hr1) fun w2 hB2=>have hC2:=hC1.grow hB2;Ae z z<|Ab<|AC<|?_
 obtain rfl:=Aa hF
 exact Ay z z<|⟨_,z,AD hC2 _⟩
theorem c_M_Told_denies {w0:World} (a1:((Int × (List Int)) × (List (Int × (List Int))))) (u1:Value) (g1:RO [] w0 u1 a1.1.2) (u2:Value) (g2:RO [] w0 u2 a1.2) (a2:(List (Int × (List Int) × Int × Int × Int))) (u3:Value) (g3:RO [] w0 u3 a2) (a3:(Int × (List Int))) (u4:Value) (g4:RO [] w0 u4 a3.2) (rr:Bool) (hF:M.Told_denies a1 a2 a3=some rr) :
 Calls Tryz.prog 151 [(.agg #[(I a1.1.1),u1,u2]),u3,(.agg #[(I a3.1),u4])].toArray w0 fun e w'=>∃v,e=.returned v∧Res w0 rr v w':=by
 refine Aw Tryz.func151 z z ?_
 have hC0:=A1 w0
 unfold M.Told_denies at hF
 refine Ac<|Bb (cs:=[(I a1.1.1),u1,u2]) hC0 z z z fun b1 w1 hC1 hB1 hN1=>Bb (cs:=[(I a3.1),u4]) hC1 z z z fun b2 w2 hC2 hB2 hN2=>Ae z z<|Ab<|Ac<|Af z z<|fd AQ Bu z z z z<|fd Bd A5 z z z z<|Al hC2 1 z z AV z z<|be hF fun x1 hx1 hF=>AE Bi ty110 g3 hx1 z z z fun b3 o1 h1=>fd AK A5 z z z z<|AH ty3 h1.snd.snd.fst hC2.keep z z fun v1 h2=>?_
 obtain rfl:=By h2
 refine Ae z z<|Ab<|be hF fun r1 hr1 hF=>BH (fun l w=>∃x2:Bool,x2=r1∧l=[(6,(.bool x2))]∧Below w2.heap.size w2 w∧Ctx [] w0 w []) ?_ ?_
 ·refine AX<|Af z z<|A4 [(I a3.1),u4] hC2 0 z z z B4 Br z z<|A8 (vs:=[(.agg #[(I a3.1),u4])]) hC2 Ao ty77 z z z z (fac z<|fa0) z z fun b4 w4 hC4 hB4=>fd AQ Bu z z z z<|A4 [(I a1.1.1),u1] hC4 2 z z z BZ Bu z z<|be hr1 fun x3 hr2 hr1=>Bc Tryz.call149 z z (c_M_matches a2 u3 (g3.now hC4.keep) ([(a3.1,a3.2)]:List (Int × (List Int))) (.slice (some ⟨b4,0,none⟩) 1 1) ((hC4.litRO (m:=1) 0 z (rowro_cons (repw_pair repw_int (repw_slice (g4.now hC4.keep))) rowro_nil) z (by simp [maxLen]) (by decide)).now (AP _ _)) (a1.1.1,a1.1.2) u1 (g1.now hC4.keep) x3 hr2)<|?_
  rintro v2 w5 ⟨hB5,F1,hv1,hn1,hb1⟩
  have hC5:=hC4.push hB5 (A:=Ad v2 x3) hv1 hn1 hb1
  refine AL Ao (hC5.ro 0 z) z z<|C1 z z z<|Af z z<|Bz (fun hc1=>?_) (fun hc1=>?_)
  ·replace hr1:=A9 hr1 hc1
   refine Ak z z<|fd AQ Bx z z z z<|Ak z z<|Al hC5 3 z z B9 z z<|Ak z z<|A4 [(I a3.1),u4] hC5 2 z z z B4 Br z z<|be hr1 fun x4 hr3 hr1=>Ak z z<|cb Tryz.call93 z z (c_M_HasFact a1.2 u2 (g2.now hC5.keep) (a3.1,a3.2) u4 (g4.now hC5.keep) x4 hr3) fun w6 hB6=>have hC6:=hC5.grow hB6;Ak z z<|Bw z z<|Ba z z z<|Af z z<|Bz (fun hc2=>?_) (fun hc2=>?_)
   ·replace hr1:=A9 hr1 hc2
    refine Ak z z<|Af z z<|Ak z z<|Ca z z z<|Ak z z<|Af z z<|Bz (fun hc3=>?_) (fun hc3=>?_)
    ·replace hr1:=A9 hr1 hc3
     refine gs z z z z<|gs z z z z<|gs z z z z<|gs z z z z<|gs z z z z<|Ak z z<|Ba z z z<|Ba z z z<|Ae z z<|Ab<|?_
     obtain rfl:=Aa hr1
     have hC7:=hC6.h0
     exact An (l':=[(6,(.bool true))]) ⟨z,Ah⟩<|⟨true,z,z,(((Ap hB4).then hB5).then hB6).below,hC7⟩
    replace hr1:=AA hr1 hc3
    refine Ak z z<|fd AQ Bx z z z z<|Ak z z<|Al hC6 3 z z B9 z z<|Ak z z<|AL Ao g2 z z<|Ak z z<|Af z z<|Ak z z<|AW z z z<|Ak z z<|AY z z z<|Ba z z z<|Ae z z<|Ab<|?_
    obtain rfl:=Aa hr1
    have hC8:=hC6.h0
    exact An (l':=[(6,(.bool (decide ((List.length a1.2:Int) < x1.2.2.1))))]) ⟨z,Ah⟩<|⟨(decide ((List.length a1.2:Int) < x1.2.2.1)),z,z,(((Ap hB4).then hB5).then hB6).below,hC8⟩
   replace hr1:=AA hr1 hc2
   refine gs z z z z<|gs z z z z<|gs z z z z<|gs z z z z<|gs z z z z<|gs z z z z<|gs z z z z<|gs z z z z<|gs z z z z<|AY z z z<|Ae z z<|Ab<|?_
   obtain rfl:=Aa hr1
   have hC9:=hC6.h0
   exact An (l':=[(6,(.bool false))]) ⟨z,Ah⟩<|⟨false,z,z,(((Ap hB4).then hB5).then hB6).below,hC9⟩
  replace hr1:=AA hr1 hc1
  refine gs z z z z<|gs z z z z<|gs z z z z<|gs z z z z<|gs z z z z<|AY z z z<|Af z z<|gs z z z z<|gs z z z z<|gs z z z z<|gs z z z z<|gs z z z z<|gs z z z z<|gs z z z z<|gs z z z z<|gs z z z z<|AY z z z<|Ae z z<|Ab<|?_
  obtain rfl:=Aa hr1
  have hC10:=hC5.h0
  exact An (l':=[(6,(.bool false))]) ⟨z,Ah⟩<|⟨false,z,z,((Ap hB4).then hB5).below,hC10⟩
 rintro _ w3 ⟨x2,rfl,rfl,hB3,hC3⟩
 try dsimp only at hF
 refine AC ?_
 obtain rfl:=Aa hF
 exact Ay z z<|⟨_,z,AD hC3 _⟩
theorem c_M_Disagree_c1 {w0:World} (a1:(Int × (List Int))) (u1:Value) (g1:RO [] w0 u1 a1.2) (pb1:Nat) (ax1:((Int × (List Int)) × (List (Int × (List Int))))) (g2:ROAt [] w0 pb1 0 ax1) (pb2:Nat) (ax2:(List (Int × (List Int) × Int × Int × Int))) (g3:ROAt [] w0 pb2 0 ax2) (rr:Bool) (hF:M.Disagree_c1 a1 ax1 ax2=some rr) :
 Calls Tryz.prog 150 [(.agg #[(I a1.1),u1]),(ptr pb1 0),(ptr pb2 0)].toArray w0 fun e w'=>∃v,e=.returned v∧Res w0 rr v w':=by
 refine Aw Tryz.func150 z z ?_
 have hC0:=A1 w0
 unfold M.Disagree_c1 at hF
 refine Ac<|Bb (cs:=[(I a1.1),u1]) hC0 z z z fun b1 w1 hC1 hB1 hN1=>Ae z z<|Ab<|Ac<|AH ty84 g2 hC1.keep z z fun v1 h1=>?_
 obtain ⟨v2,v3,rfl,h2,h3⟩:=C0 h1
 refine AH ty25 g3 hC1.keep z z fun v4 h4=>A4 [(I a1.1),u1] hC1 0 z z z B4 Br z z<|be hF fun x1 hr1 hF=>cb Tryz.call151 z z (c_M_Told_denies ax1 v2 (h2.now hC1.keep) v3 (h3.now hC1.keep) ax2 v4 (h4.now hC1.keep) (a1.1,a1.2) u1 (g1.now hC1.keep) x1 hr1) fun w2 hB2=>have hC2:=hC1.grow hB2;Ae z z<|Ab<|AC<|?_
 obtain rfl:=Aa hF
 exact Ay z z<|⟨_,z,AD hC2 _⟩
theorem c_M_Disagree_c2 {w0:World} (a1:(Int × (List Int))) (u1:Value) (g1:RO [] w0 u1 a1.2) (pb1:Nat) (ax1:((Int × (List Int)) × (List (Int × (List Int))))) (g2:ROAt [] w0 pb1 0 ax1) (pb2:Nat) (ax2:(List (Int × (List Int) × Int × Int × Int))) (g3:ROAt [] w0 pb2 0 ax2) (rr:Bool) (hF:M.Disagree_c2 a1 ax1 ax2=some rr) :
 Calls Tryz.prog 152 [(.agg #[(I a1.1),u1]),(ptr pb1 0),(ptr pb2 0)].toArray w0 fun e w'=>∃v,e=.returned v∧Res w0 rr v w':=by
 refine Aw Tryz.func152 z z ?_
 have hC0:=A1 w0
 unfold M.Disagree_c2 at hF
 refine Ac<|Bb (cs:=[(I a1.1),u1]) hC0 z z z fun b1 w1 hC1 hB1 hN1=>Ae z z<|Ab<|Ac<|AH ty84 g2 hC1.keep z z fun v1 h1=>?_
 obtain ⟨v2,v3,rfl,h2,h3⟩:=C0 h1
 refine AH ty25 g3 hC1.keep z z fun v4 h4=>A4 [(I a1.1),u1] hC1 0 z z z B4 Br z z<|be hF fun x1 hr1 hF=>cb Tryz.call151 z z (c_M_Told_denies ax1 v2 (h2.now hC1.keep) v3 (h3.now hC1.keep) ax2 v4 (h4.now hC1.keep) (a1.1,a1.2) u1 (g1.now hC1.keep) x1 hr1) fun w2 hB2=>have hC2:=hC1.grow hB2;Ae z z<|Ab<|AC<|?_
 obtain rfl:=Aa hF
 exact Ay z z<|⟨_,z,AD hC2 _⟩
theorem c_Slices_IndexFunc_Limpl_Fact_impl_Fact_M_Disagree_c1 {w0:World} (a1:(List (Int × (List Int)))) (u1:Value) (g1:RO [] w0 u1 a1) (pb1:Nat) (ax1:((Int × (List Int)) × (List (Int × (List Int))))) (g2:ROAt [] w0 pb1 0 ax1) (pb2:Nat) (ax2:(List (Int × (List Int) × Int × Int × Int))) (g3:ROAt [] w0 pb2 0 ax2) (rr:Int) (hF:Slices.IndexFunc_Limpl_Fact_impl_Fact_M_Disagree_c1 a1 ax1 ax2=some rr) :
 Calls Tryz.prog 189 [u1,(.func (.func 150) #[] #[(ptr pb1 0),(ptr pb2 0)])].toArray w0 fun e w'=>∃v,e=.returned v∧Res w0 rr v w':=by
 refine Aw CK z z ?_
 have hC0:=A1 w0
 unfold Slices.IndexFunc_Limpl_Fact_impl_Fact_M_Disagree_c1 at hF
 refine Ac<|Ae z z<|Ab<|A0<|Ac<|Af z z<|AL Ao g1 z z<|Af z z<|Ab<|be hF fun r1 hr1 hF=>Bf (fun l w=>.inl ()=r1∧l=[]∧Below w0.heap.size w0 w∧Ctx [] w0 w []) ?_ ?_
 ·refine AB<|wS (l':=[(0,u1),(1,(.func (.func 150) #[] #[(ptr pb1 0),(ptr pb2 0)])),(7,(I (List.length a1:Int))),(8,(I 0))]) ⟨z,z,z,z,Ah⟩<|Bo (fun k l w=>∃x1:Int,l=[(0,u1),(1,(.func (.func 150) #[] #[(ptr pb1 0),(ptr pb2 0)])),(7,(I (List.length a1:Int))),(8,(I x1))]∧Below w0.heap.size w0 w∧Ctx [] w0 w []∧Slices.IndexFunc_Limpl_Fact_impl_Fact_M_Disagree_c1_l1 a1 ax1 ax2 k x1=some r1) FUEL ⟨0,z,(Am _ _),hC0,hr1⟩<|?_
  clear hr1
  rintro k1 _ w1 ⟨x1,rfl,hB1,hC1,hL1⟩
  cases k1 with
  | zero=>rw [Slices.IndexFunc_Limpl_Fact_impl_Fact_M_Disagree_c1_l1] at hL1; cases hL1
  | succ k1 =>
   rw [Slices.IndexFunc_Limpl_Fact_impl_Fact_M_Disagree_c1_l1] at hL1
   refine Ac<|AW z z z<|Ab<|A0<|A7 z (fun hc1=>?_) (fun hc1=>?_)
   ·replace hL1:=A9 hL1 hc1
    refine A6<|Aj<|A0<|AB<|Ac<|Af z z<|Ae z z<|Ab<|Ac<|Af z z<|Af z z<|Af z z<|be hL1 fun x2 hx1 hL1=>AE Ao ty77 g1 hx1 z z z fun b1 o1 h1=>AH ty77 h1 hC1.keep z z fun v1 h2=>?_
    obtain ⟨v2,rfl,h3⟩:=BM h2
    refine be hL1 fun x3 hr2 hL1=>BQ (cap:=[(ptr pb1 0),(ptr pb2 0)]) Tryz.call150 z z z (c_M_Disagree_c1 x2 v2 (h3.now hC1.keep) pb1 ax1 (g2.now hC1.keep) pb2 ax2 (g3.now hC1.keep) x3 hr2) fun _ w2 hv1=>?_
    obtain ⟨rfl,hB2⟩:=BR hv1
    have hC2:=hC1.grow hB2
    refine Ab<|A7 z (fun hc2=>?_) (fun hc2=>?_)
    ·replace hL1:=A9 hL1 hc2
     refine Ac<|Af z z<|Ae z z<|Ab<|AC<|AU<|Ar<|Ar<|AU<|Ar<|Ar<|?_
     obtain rfl:=Aa hL1
     dsimp only at hF
     obtain rfl:=Aa hF
     exact Ay z z<|⟨_,z,Bk hC2 _⟩
    replace hL1:=AA hL1 hc2
    exact A6<|AJ<|Aj<|AX<|Be z z z<|Af z z<|Ab<|An (l':=[(0,u1),(1,(.func (.func 150) #[] #[(ptr pb1 0),(ptr pb2 0)])),(7,(I (List.length a1:Int))),(8,(I (w64 (x1+1))))]) ⟨z,z,z,z,Ah⟩<|⟨k1,Az _,w64 (x1+1),z,((Ap hB1).then hB2).below,hC2,hL1⟩
   replace hL1:=AA hL1 hc1
   refine Bm (A2 (A2 (AT ?_)))
   obtain rfl:=Aa hL1
   exact An (l':=[]) Ah<|⟨z,z,(Ap hB1).below,hC1⟩
 rintro l2 _ w3 hs2 ⟨rfl,rfl,hB3,hC3⟩
 try dsimp only at hF
 refine AO hs2 ?_
 clear hs2
 refine Ac<|Ae z z<|Ab<|AC<|?_
 obtain rfl:=Aa hF
 exact Ay z z<|⟨_,z,Bk hC3 _⟩
theorem c_Slices_ContainsFunc_Limpl_Fact_impl_Fact_M_Disagree_c1 {w0:World} (a1:(List (Int × (List Int)))) (u1:Value) (g1:RO [] w0 u1 a1) (pb1:Nat) (ax1:((Int × (List Int)) × (List (Int × (List Int))))) (g2:ROAt [] w0 pb1 0 ax1) (pb2:Nat) (ax2:(List (Int × (List Int) × Int × Int × Int))) (g3:ROAt [] w0 pb2 0 ax2) (rr:Bool) (hF:Slices.ContainsFunc_Limpl_Fact_impl_Fact_M_Disagree_c1 a1 ax1 ax2=some rr) :
 Calls Tryz.prog 145 [u1,(.func (.func 150) #[] #[(ptr pb1 0),(ptr pb2 0)])].toArray w0 fun e w'=>∃v,e=.returned v∧Res w0 rr v w':=by
 refine Aw Tryz.func145 z z ?_
 have hC0:=A1 w0
 unfold Slices.ContainsFunc_Limpl_Fact_impl_Fact_M_Disagree_c1 at hF
 refine Ac<|Ae z z<|Ab<|Ac<|Af z z<|Af z z<|be hF fun x1 hr1 hF=>ci CL z z (c_Slices_IndexFunc_Limpl_Fact_impl_Fact_M_Disagree_c1 a1 u1 (g1.now hC0.keep) pb1 ax1 (g2.now hC0.keep) pb2 ax2 (g3.now hC0.keep) x1 hr1) fun w1 hB1=>have hC1:=hC0.grow hB1;Cu z z z<|Ae z z<|Ab<|AC<|?_
 obtain rfl:=Aa hF
 exact Ay z z<|⟨_,z,AD hC1 _⟩
theorem c_Slices_IndexFunc_Limpl_Fact_impl_Fact_M_Disagree_c2 {w0:World} (a1:(List (Int × (List Int)))) (u1:Value) (g1:RO [] w0 u1 a1) (pb1:Nat) (ax1:((Int × (List Int)) × (List (Int × (List Int))))) (g2:ROAt [] w0 pb1 0 ax1) (pb2:Nat) (ax2:(List (Int × (List Int) × Int × Int × Int))) (g3:ROAt [] w0 pb2 0 ax2) (rr:Int) (hF:Slices.IndexFunc_Limpl_Fact_impl_Fact_M_Disagree_c2 a1 ax1 ax2=some rr) :
 Calls Tryz.prog 189 [u1,(.func (.func 152) #[] #[(ptr pb1 0),(ptr pb2 0)])].toArray w0 fun e w'=>∃v,e=.returned v∧Res w0 rr v w':=by
 refine Aw CK z z ?_
 have hC0:=A1 w0
 unfold Slices.IndexFunc_Limpl_Fact_impl_Fact_M_Disagree_c2 at hF
 refine Ac<|Ae z z<|Ab<|A0<|Ac<|Af z z<|AL Ao g1 z z<|Af z z<|Ab<|be hF fun r1 hr1 hF=>Bf (fun l w=>.inl ()=r1∧l=[]∧Below w0.heap.size w0 w∧Ctx [] w0 w []) ?_ ?_
 ·refine AB<|wS (l':=[(0,u1),(1,(.func (.func 152) #[] #[(ptr pb1 0),(ptr pb2 0)])),(7,(I (List.length a1:Int))),(8,(I 0))]) ⟨z,z,z,z,Ah⟩<|Bo (fun k l w=>∃x1:Int,l=[(0,u1),(1,(.func (.func 152) #[] #[(ptr pb1 0),(ptr pb2 0)])),(7,(I (List.length a1:Int))),(8,(I x1))]∧Below w0.heap.size w0 w∧Ctx [] w0 w []∧Slices.IndexFunc_Limpl_Fact_impl_Fact_M_Disagree_c2_l1 a1 ax1 ax2 k x1=some r1) FUEL ⟨0,z,(Am _ _),hC0,hr1⟩<|?_
  clear hr1
  rintro k1 _ w1 ⟨x1,rfl,hB1,hC1,hL1⟩
  cases k1 with
  | zero=>rw [Slices.IndexFunc_Limpl_Fact_impl_Fact_M_Disagree_c2_l1] at hL1; cases hL1
  | succ k1 =>
   rw [Slices.IndexFunc_Limpl_Fact_impl_Fact_M_Disagree_c2_l1] at hL1
   refine Ac<|AW z z z<|Ab<|A0<|A7 z (fun hc1=>?_) (fun hc1=>?_)
   ·replace hL1:=A9 hL1 hc1
    refine A6<|Aj<|A0<|AB<|Ac<|Af z z<|Ae z z<|Ab<|Ac<|Af z z<|Af z z<|Af z z<|be hL1 fun x2 hx1 hL1=>AE Ao ty77 g1 hx1 z z z fun b1 o1 h1=>AH ty77 h1 hC1.keep z z fun v1 h2=>?_
    obtain ⟨v2,rfl,h3⟩:=BM h2
    refine be hL1 fun x3 hr2 hL1=>BQ (cap:=[(ptr pb1 0),(ptr pb2 0)]) Tryz.call152 z z z (c_M_Disagree_c2 x2 v2 (h3.now hC1.keep) pb1 ax1 (g2.now hC1.keep) pb2 ax2 (g3.now hC1.keep) x3 hr2) fun _ w2 hv1=>?_
    obtain ⟨rfl,hB2⟩:=BR hv1
    have hC2:=hC1.grow hB2
    refine Ab<|A7 z (fun hc2=>?_) (fun hc2=>?_)
    ·replace hL1:=A9 hL1 hc2
     refine Ac<|Af z z<|Ae z z<|Ab<|AC<|AU<|Ar<|Ar<|AU<|Ar<|Ar<|?_
     obtain rfl:=Aa hL1
     dsimp only at hF
     obtain rfl:=Aa hF
     exact Ay z z<|⟨_,z,Bk hC2 _⟩
    replace hL1:=AA hL1 hc2
    exact A6<|AJ<|Aj<|AX<|Be z z z<|Af z z<|Ab<|An (l':=[(0,u1),(1,(.func (.func 152) #[] #[(ptr pb1 0),(ptr pb2 0)])),(7,(I (List.length a1:Int))),(8,(I (w64 (x1+1))))]) ⟨z,z,z,z,Ah⟩<|⟨k1,Az _,w64 (x1+1),z,((Ap hB1).then hB2).below,hC2,hL1⟩
   replace hL1:=AA hL1 hc1
   refine Bm (A2 (A2 (AT ?_)))
   obtain rfl:=Aa hL1
   exact An (l':=[]) Ah<|⟨z,z,(Ap hB1).below,hC1⟩
 rintro l2 _ w3 hs2 ⟨rfl,rfl,hB3,hC3⟩
 try dsimp only at hF
 refine AO hs2 ?_
 clear hs2
 refine Ac<|Ae z z<|Ab<|AC<|?_
 obtain rfl:=Aa hF
 exact Ay z z<|⟨_,z,Bk hC3 _⟩
theorem c_Slices_ContainsFunc_Limpl_Fact_impl_Fact_M_Disagree_c2 {w0:World} (a1:(List (Int × (List Int)))) (u1:Value) (g1:RO [] w0 u1 a1) (pb1:Nat) (ax1:((Int × (List Int)) × (List (Int × (List Int))))) (g2:ROAt [] w0 pb1 0 ax1) (pb2:Nat) (ax2:(List (Int × (List Int) × Int × Int × Int))) (g3:ROAt [] w0 pb2 0 ax2) (rr:Bool) (hF:Slices.ContainsFunc_Limpl_Fact_impl_Fact_M_Disagree_c2 a1 ax1 ax2=some rr) :
 Calls Tryz.prog 145 [u1,(.func (.func 152) #[] #[(ptr pb1 0),(ptr pb2 0)])].toArray w0 fun e w'=>∃v,e=.returned v∧Res w0 rr v w':=by
 refine Aw Tryz.func145 z z ?_
 have hC0:=A1 w0
 unfold Slices.ContainsFunc_Limpl_Fact_impl_Fact_M_Disagree_c2 at hF
 refine Ac<|Ae z z<|Ab<|Ac<|Af z z<|Af z z<|be hF fun x1 hr1 hF=>ci CL z z (c_Slices_IndexFunc_Limpl_Fact_impl_Fact_M_Disagree_c2 a1 u1 (g1.now hC0.keep) pb1 ax1 (g2.now hC0.keep) pb2 ax2 (g3.now hC0.keep) x1 hr1) fun w1 hB1=>have hC1:=hC0.grow hB1;Cu z z z<|Ae z z<|Ab<|AC<|?_
 obtain rfl:=Aa hF
 exact Ay z z<|⟨_,z,AD hC1 _⟩
end Go.Gx.Px
