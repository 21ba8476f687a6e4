/- The contracts of the Go functions against the pure functions, printed by program. Conditions: each says them. -/
import Derived.Test.YthidohmobbomfaaGreatTy
import Derived.Test.YthidohmobbomfaaGreatGxZp
import Derived.Test.YthidohmobbomfaaGreatPure
set_option linter.unusedVariables false
set_option linter.unusedSimpArgs false
set_option maxRecDepth 100000
set_option maxHeartbeats 4000000
namespace Go.Gx.Px
open Go.Proofs Go.RowKit
namespace K9
abbrev I (x : Int) : Value := .int .i64 x
abbrev Ta:=(List Int)
abbrev Tn:=(List Nat)
abbrev Tm:=(List UInt8)
abbrev Tj:=(List Ta)
abbrev Tb:=(Int × Ta)
abbrev Tc:=(List Tb)
abbrev Th:=(Ta × Ta)
abbrev Ti:=(Tm × Int × Int)
abbrev Tk:=(List Th)
abbrev Ts:=(Int × Ti)
abbrev Te:=(Int × Ta × Int × Int × Int)
abbrev Tl:=(Ta × Tc)
abbrev Tf:=(List Te)
abbrev Td:=(Tb × Tc)
abbrev Tp:=(Tb × Ti)
abbrev Tg:=(List Td)
abbrev Tr:=(Tc × Ti)
abbrev Tq:=(Te × Ti)
abbrev To:=(Ta × Tf × Tg)
abbrev Aa:=@WL_nil
abbrev Ab:=@Option.some.inj
abbrev Ac:=@W_seq_reg
abbrev Ad:=@Item.own
abbrev Ae:=@WL_move
abbrev Af:=@WL_assign
abbrev Ag:=@Tryz.underlying24
abbrev Ah:=@Item.box
abbrev Ai:=@WL_guard
abbrev Aj:=@Below.refl
abbrev Ak:=@Tryz.underlying35
abbrev Al:=@WL_load_box
abbrev Am:=@nrm_normal
abbrev An:=@StepsE_cons
abbrev Ao:=@Keep.of
abbrev Ap:=@AllE_cons
abbrev Aq:=@Tryz.sizeOf24
abbrev Ar:=@WL_buildSlice
abbrev At:=@DepsE_nil
abbrev Au:=@Tryz.isAgg24
abbrev Av:=@calls_of_W
abbrev Aw:=@Nat.lt_succ_self
abbrev Ax:=@nrm_ret
abbrev Ay:=@Keep.refl
abbrev Az:=@WL_load_box_agg
abbrev A0:=@W_seq
abbrev A1:=@FinE_val
abbrev A2:=@nrm_exit
abbrev A3:=@Ctx.start
abbrev A4:=@W_block
abbrev A5:=@W_skip
abbrev A6:=@trivial
abbrev A7:=@Tryz.sizeOf3
abbrev A8:=@Tryz.underlying26
abbrev A9:=@WL_index
abbrev AA:=@WL_call
abbrev AB:=@Tryz.underlying77
abbrev AC:=@Tryz.underlying31
abbrev AD:=@WL_load
abbrev AE:=@WL_store_box_aggK
abbrev AF:=@W_ret
abbrev AG:=@DepsE_cons
abbrev AH:=@WL_len
abbrev AI:=@Tryz.underlying110
abbrev AJ:=@WL_pick_t
abbrev AK:=@WL_pick_f
abbrev AL:=@W_reg
abbrev AM:=@blk_exit
abbrev AN:=@blk_normal
abbrev AO:=@Tryz.underlying82
abbrev AP:=@Tryz.sizeOf82
abbrev AQ:=@PW.val
abbrev AR:=@Tryz.underlying84
abbrev AS:=@WL_append_flat
abbrev AT:=@blk_ret
abbrev AU:=@Tryz.isAgg3
abbrev AV:=@Keep.over
abbrev AW:=@WL_add
abbrev AX:=@StepsE_nil
abbrev AY:=@Tryz.underlying93
abbrev AZ:=@WL_lss
abbrev Ba:=@Tryz.sizeOf149
abbrev Bb:=@Tryz.sizeOf77
abbrev Bc:=@Tryz.underlying149
abbrev Bd:=@RO.lent
abbrev Be:=@WL_boxK
abbrev Bf:=@WL_append_head
abbrev Bg:=@WA_postsE
abbrev Bh:=@Tryz.underlying25
abbrev Bi:=@W_exit
abbrev Bj:=@W_loop
abbrev Bk:=@WL_extract
abbrev Bl:=@Nat.le_trans
abbrev Bm:=@AllE_nil
abbrev Bn:=@Tryz.underlying43
abbrev Bo:=@ro_int
abbrev Bp:=@Tryz.call111
abbrev Bq:=@WL_allocK
abbrev Br:=@ro_one
abbrev Bt:=@int_val
abbrev Bu:=@Tryz.isAgg82
abbrev Bv:=@WL_not
abbrev Bw:=@Tryz.isAgg77
abbrev Bx:=@Tryz.sizeOf35
abbrev By:=@Tryz.underlying41
abbrev Bz:=@Tryz.underlying99
abbrev B0:=@Tryz.sizeOf43
abbrev B1:=@Tryz.isAgg149
abbrev B2:=@WL_store_boxK
abbrev B3:=@Tryz.sizeOf84
abbrev B4:=@WL_build
abbrev B5:=@fl_index
abbrev B6:=@Tryz.sizeOf110
abbrev B7:=@Ctx.startIn
abbrev B8:=@Tryz.isAgg35
abbrev B9:=@W_cut
abbrev BA:=@Tryz.isAgg43
abbrev BB:=@Tryz.sizeOf41
abbrev BC:=@fl_field
abbrev BD:=@WL_eql
abbrev BE:=@ro_st77
abbrev BF:=@Tryz.underlying133
abbrev BG:=@Tryz.isAgg84
abbrev BH:=@Tryz.call117
abbrev BI:=@fn_ret1
abbrev BJ:=@WA_fork
abbrev BK:=@Tryz.isAgg41
abbrev BL:=@WL_callv
abbrev BM:=@res_bool
abbrev BN:=@bool_val
abbrev BO:=@Tryz.call114
abbrev BP:=@WL_makeFunc
abbrev BQ:=@WL_neq
abbrev BR:=@fl_build
abbrev BS:=@PW.own
abbrev BT:=@Tryz.call169
abbrev BU:=@Tryz.isAgg110
abbrev BV:=@Tryz.call119
abbrev BW:=@own_st84
abbrev BX:=@Tryz.underlying22
abbrev BY:=@fn_retG1
abbrev BZ:=@FinE_own
abbrev Ca:=@fl_move
abbrev Cb:=@WL_sub
abbrev Cc:=@own_st77
abbrev Cd:=@PW.at
abbrev Ce:=@own_st149
abbrev Cf:=@Tryz.call65
abbrev Ci:=@WL_nilCheck
abbrev Cj:=@PW.ro
abbrev Ck:=@WL_gtr
abbrev Cl:=@Tryz.sizeOf93
abbrev Cm:=@ite_t
abbrev Cn:=@ite_f
abbrev Co:=@FinE_ctx
abbrev Cp:=@Tryz.call113
abbrev Cq:=@nrm_subs
abbrev Cr:=@WL_geq
abbrev Cs:=@WL_sl_l
abbrev Ct:=@WL_load_rhole_agg
abbrev Cu:=@Tryz.underlying3
abbrev Cv:=@WL_leq
abbrev Cw:=@fl_not
abbrev Cx:=@WA_all2
abbrev Cy:=@Tryz.isAgg26
abbrev Cz:=@WL_index_rhole
abbrev C0:=@Item.rhole
abbrev C1:=@fn_ret3
abbrev C2:=@ro_st84
abbrev C3:=@fl_nilCheck
abbrev C4:=@W_cond_t
abbrev C5:=@W_cond_f
abbrev C6:=@ro_st149
abbrev C7:=@W_norm
abbrev C8:=@Tryz.call167
abbrev C9:=@Tryz.call105
abbrev CA:=@Tryz.func197
abbrev CB:=@Tryz.func153
abbrev CC:=@Tryz.call197
abbrev CD:=@Tryz.call153
abbrev CE:=@Tryz.call143
abbrev CF:=@Tryz.func189
abbrev CG:=@Tryz.call189
abbrev CH:=@Tryz.isAgg93
abbrev CI:=@ro_of_own
abbrev CJ:=@own_res
abbrev CK:=@Tryz.call54
abbrev CL:=@Tryz.call47
abbrev CM:=@fl_neq
abbrev CN:=@Tryz.underlying5
abbrev CO:=@fl_sub
abbrev CP:=@Tryz.isAgg25
abbrev CQ:=@WL_copy
abbrev CR:=@Nat.min
abbrev CS:=@fl_sl_l
abbrev CT:=@fn_ret2
abbrev CU:=@Tryz.call171
abbrev CV:=@Tryz.call209
abbrev CW:=@ro_st110
abbrev CX:=@Tryz.call53
abbrev CY:=@Tryz.call98
abbrev CZ:=@Tryz.call19
abbrev Da:=@Nat.le_refl
abbrev Db:=@Tryz.call85
abbrev Dc:=@Tryz.call23
abbrev Dd:=@Tryz.call20
abbrev De:=@fn_retG2
abbrev Df:=@fl_pick_t
abbrev Dg:=@fl_pick_f
abbrev Dh:=@Ctx.lend2
abbrev Di:=@StepsE_use
abbrev Dj:=@WL_band
abbrev Dk:=@own_st82
abbrev Dl:=@fl_eql
end K9
open K9
theorem c_Q_big {w0:World} (a1:Tm) (u1:Value) (g1:RO [] w0 u1 a1) (rr:Bool) (hF:Q.big a1=some rr) :
 Calls Tryz.prog 5 [u1].toArray w0 fun e w'=>∃v,e=.returned v∧Res w0 rr v w':=by
 refine Av Tryz.func5 z z ?_
 have hC0:=A3 w0
 unfold Q.big at hF
 exact Ac<|Af z z<|Aa<|Ac<|Ae z z<|AH BX g1 z z<|Ck z z z<|Af z z<|Aa<|AF<|rB hF z z hC0
theorem c_S_l1New {w0:World} (a1:Tm) (u1:Value) (g1:RO [] w0 u1 a1) (rr:Ti) (hF:S.l1New a1=some rr) :
 Calls Tryz.prog 63 [u1].toArray w0 fun e w'=>∃v,e=.returned v∧∃q0:Nat,v=(ptr q0 0)∧Ctx [] w0 w' [Ah q0 [u1,(I rr.2.1),(I rr.2.2)]]:=by
 refine Av Tryz.func63 z z ?_
 have hC0:=A3 w0
 unfold S.l1New at hF
 refine Ac<|Af z z<|Aa<|Ac<|Ae z z<|AH BX g1 z z<|AW z z z<|Af z z<|Aa<|A0<|Ac<|Af z z<|Aa<|be hF fun r1 hr1 hF=>wN (fun l w=>∃x3:Int,x3=r1∧l=[(0,u1),(3,(I x3))]∧Below w0.heap.size w0 w∧Ctx [] w0 w []) ?_ ?_
 ·refine A4<|wT<|Bj (fun k l w=>∃x1:Int,∃x2:Int,l=[(0,u1),(3,(I x1)),(4,(I x2))]∧Below w0.heap.size w0 w∧Ctx [] w0 w []∧S.l1New_l1 a1 k x1 x2=some r1) FUEL ⟨w64 (10101+(List.length a1:Int)),0,z,(Aj _ _),hC0,hr1⟩<|?_
  clear hr1
  rintro k1 _ w1 ⟨x1,x2,rfl,hB1,hC1,hL1⟩
  obtain _|k1:=k1<;>rw [S.l1New_l1] at hL1
  ·cases hL1
  refine A0<|be hL1 fun r2 hr2 hL1=>B9 (fun l w=>∃x4:Bool,x4=r2∧l=[(0,u1),(3,(I x1)),(4,(I x2)),(15,(.bool x4))]∧Below w1.heap.size w1 w∧Ctx [] w0 w []) ?_ ?_
  ·refine AL<|Ae z z<|Ae z z<|AH BX g1 z z<|AZ z z z<|Ae z z<|wk hr2 (fun hr2=>?_) fun hr2=>?_
   ·exact Ai z z<|Ae z z<|Ai z z<|AZ z z z<|AJ z z z<|Aa<|nS<|⟨(decide (x2 < 4000)),Ab hr2,z,(Aj _ _),hC1⟩
   exact gs z z z z<|gs z z z z<|AK z z z<|Aa<|nS<|⟨false,Ab hr2,z,(Aj _ _),hC1⟩
  rintro _ w2 ⟨x4,rfl,rfl,hB2,hC2⟩
  refine wc hL1 z (fun hL1=>?_) fun hL1=>?_
  ·refine A5<|Am<|A0<|A4<|AL<|Ae z z<|WL_mul z z z<|Ae z z<|Ae z z<|be hL1 fun x5 hx1 hL1=>A9 BX ty5 g1 hx1 z z z fun b1 o1 h1=>AD ty5 h1 hC2.keep z z fun v1 h2=>?_
   obtain rfl:=ro_u8 h2
   exact WL_conv_i64 CN Cu z z<|AW z z z<|AW z z z<|Dj z z z<|Af z z<|Aa<|AN<|Am<|AL<|Ae z z<|AW z z z<|Af z z<|Aa<|nS<|⟨k1,Aw _,band (w64 ((w64 ((w64 (x1 * 131))+(w64 (UInt8.toNat x5:Int))))+7)) 1073741823,w64 (x2+1),z,((Ao hB1).then hB2).below,hC2,hL1⟩
  refine Bi (A2 (A2 (AM ?_)))
  exact nS<|⟨x1,Ab hL1,z,((Ao hB1).then hB2).below,hC2⟩
 rintro _ w3 ⟨x3,rfl,rfl,hB3,hC3⟩
 refine Ac<|Ae z z<|Ae z z<|B4 (vs:=[(0,u1),(2,(I x3))]) z z z (built133_0_2 (ro_cells g1) z)<|Be (cs:=[u1,(I 0),(I x3)]) hC3 z z z fun b2 w4 hC4 hB4 hN1=>Af z z<|Aa<|AF<|?_
 obtain rfl:=Ab hF
 exact BI z z<|⟨_,z,_,z,hC4⟩
theorem c_S_l1In {w0:World} (a1:Int) (a2:Int) (a3:Int) (rr:Bool) (hF:S.l1In a1 a2 a3=some rr) :
 Calls Tryz.prog 117 [(I a1),(I a2),(I a3)].toArray w0 fun e w'=>∃v,e=.returned v∧Res w0 rr v w':=by
 refine Av Tryz.func117 z z ?_
 have hC0:=A3 w0
 unfold S.l1In at hF
 refine Ac<|Af z z<|Aa<|be hF fun r1 hr1 hF=>B9 (fun l w=>∃x1:Bool,x1=r1∧l=[(6,(.bool x1))]∧Below w0.heap.size w0 w∧Ctx [] w0 w []) ?_ ?_
 ·refine AL<|Ae z z<|Ae z z<|Cr z z z<|Ae z z<|wk hr1 (fun hr1=>?_) fun hr1=>?_
  ·exact Ai z z<|Ae z z<|Ai z z<|Ae z z<|Ai z z<|Cv z z z<|AJ z z z<|Af z z<|Aa<|nS<|⟨(decide (a1 ≤ a3)),Ab hr1,z,(Aj _ _),hC0⟩
  exact gs z z z z<|gs z z z z<|gs z z z z<|AK z z z<|Af z z<|Aa<|nS<|⟨false,Ab hr1,z,(Aj _ _),hC0⟩
 rintro _ w1 ⟨x1,rfl,rfl,hB1,hC1⟩
 exact AF<|rB hF z z hC1
theorem c_S_IsSchema {w0:World} (a1:Ta) (u1:Value) (g1:RO [] w0 u1 a1) (rr:Bool) (hF:S.IsSchema a1=some rr) :
 Calls Tryz.prog 65 [u1].toArray w0 fun e w'=>∃v,e=.returned v∧Res w0 rr v w':=by
 refine Av Tryz.func65 z z ?_
 have hC0:=A3 w0
 unfold S.IsSchema at hF
 refine Ac<|Af z z<|Aa<|A0<|Ac<|Af z z<|Aa<|be hF fun r1 hr1 hF=>wN (fun l w=>.inl ()=r1∧l=[(0,u1)]∧Below w0.heap.size w0 w∧Ctx [] w0 w []) ?_ ?_
 ·refine A4<|wT<|Bj (fun k l w=>∃x1:Int,l=[(0,u1),(3,(I x1))]∧Below w0.heap.size w0 w∧Ctx [] w0 w []∧S.IsSchema_l1 a1 k x1=some r1) FUEL ⟨0,z,(Aj _ _),hC0,hr1⟩<|?_
  clear hr1
  rintro k1 _ w1 ⟨x1,rfl,hB1,hC1,hL1⟩
  obtain _|k1:=k1<;>rw [S.IsSchema_l1] at hL1
  ·cases hL1
  refine A0<|Ac<|Ae z z<|Ae z z<|AH Ag g1 z z<|AZ z z z<|Aa<|wc hL1 z (fun hL1=>?_) fun hL1=>?_
  ·refine A5<|Am<|A0<|A4<|Ac<|Ae z z<|Ae z z<|be hL1 fun x2 hx1 hL1=>A9 Ag ty3 g1 hx1 z z z fun b1 o1 h1=>AD ty3 h1 hC1.keep z z fun v1 h2=>?_
   obtain rfl:=Bo h2
   refine be hL1 fun x3 hr2 hL1=>cb BH z z (c_S_l1In x2 1 3 x3 hr2) fun w2 hB2=>have hC2:=hC1.grow hB2;Bv z z<|Aa<|wc hL1 z (fun hL1=>?_) fun hL1=>?_
   ·refine Ac<|Af z z<|Aa<|AF<|AT<|Ax<|Ax<|AT<|Ax<|Ax<|?_
    obtain rfl:=Ab hL1
    dsimp only at hF
    exact rB hF z z hC2
   exact A5<|AN<|Am<|AL<|Ae z z<|AW z z z<|Af z z<|Aa<|nS<|⟨k1,Aw _,w64 (x1+1),z,((Ao hB1).then hB2).below,hC2,hL1⟩
  refine Bi (A2 (A2 (AM ?_)))
  exact nS<|⟨Ab hL1,z,(Ao hB1).below,hC1⟩
 rintro _ w3 ⟨rfl,rfl,hB3,hC3⟩
 try dsimp only at hF
 exact Ac<|Ae z z<|AH Ag g1 z z<|be hF fun x4 hr3 hF=>cb BH z z (c_S_l1In (List.length a1:Int) 1 3 x4 hr3) fun w4 hB4=>have hC4:=hC3.grow hB4;Af z z<|Aa<|AF<|rB hF z z hC4
theorem c_S_IsMethod {w0:World} (a1:Ta) (u1:Value) (g1:RO [] w0 u1 a1) (a2:Te) (u2:Value) (g2:RO [] w0 u2 a2.2.1) (rr:Bool) (hF:S.IsMethod a1 a2=some rr) :
 Calls Tryz.prog 88 [u1,(.agg #[(I a2.1),u2,(I a2.2.2.1),(I a2.2.2.2.1),(I a2.2.2.2.2)])].toArray w0 fun e w'=>∃v,e=.returned v∧Res w0 rr v w':=by
 refine Av Tryz.func88 z z ?_
 have hC0:=A3 w0
 unfold S.IsMethod at hF
 refine Ac<|Be (cs:=[(I a2.1),u2,(I a2.2.2.1),(I a2.2.2.2.1),(I a2.2.2.2.2)]) hC0 z z z fun b1 w1 hC1 hB1 hN1=>Af z z<|Aa<|A0<|be hF fun r1 hr1 hF=>B9 (fun l w=>∃x1:Bool,x1=r1∧l=[(0,u1),(3,(ptr b1 0)),(35,(.bool x1))]∧Below w1.heap.size w1 w∧Ctx [] w0 w [Ah b1 [(I a2.1),u2,(I a2.2.2.1),(I a2.2.2.2.1),(I a2.2.2.2.2)]]) ?_ ?_
 ·refine AL<|Ae z z<|be hr1 fun x2 hr2 hr1=>cb Cf z z (c_S_IsSchema a1 u1 (g1.now hC1.keep) x2 hr2) fun w3 hB3=>have hC3:=hC1.grow hB3;Bv z z<|Ae z z<|wk hr1 (fun hr1=>?_) fun hr1=>?_
  ·exact gs z z z z<|gs z z z z<|gs z z z z<|gs z z z z<|gs z z z z<|gs z z z z<|gs z z z z<|AJ z z z<|Ae z z<|gs z z z z<|gs z z z z<|gs z z z z<|gs z z z z<|AJ z z z<|Ae z z<|gs z z z z<|gs z z z z<|gs z z z z<|gs z z z z<|AJ z z z<|Ae z z<|gs z z z z<|gs z z z z<|gs z z z z<|gs z z z z<|AJ z z z<|Aa<|nS<|⟨true,Ab hr1,z,(Ao hB3).below,hC3⟩
  refine Ai z z<|fd AI A7 z z z z<|Ai z z<|Al hC3 0 z z AU z z<|Ai z z<|Ae z z<|Ai z z<|AH Ag g1 z z<|Ai z z<|Cb z z z<|be hr1 fun x3 hr3 hr1=>Ai z z<|cb BH z z (c_S_l1In a2.1 0 (w64 ((List.length a1:Int) - 1)) x3 hr3) fun w4 hB4=>have hC4:=hC3.grow hB4;Ai z z<|Bv z z<|AK z z z<|Ae z z<|wk hr1 (fun hr1=>?_) fun hr1=>?_
  ·exact gs z z z z<|gs z z z z<|gs z z z z<|gs z z z z<|AJ z z z<|Ae z z<|gs z z z z<|gs z z z z<|gs z z z z<|gs z z z z<|AJ z z z<|Ae z z<|gs z z z z<|gs z z z z<|gs z z z z<|gs z z z z<|AJ z z z<|Aa<|nS<|⟨true,Ab hr1,z,((Ao hB3).then hB4).below,hC4⟩
  refine Ai z z<|fd AI A7 z z z z<|Ai z z<|Al hC4 0 z z AU z z<|be hr1 fun x4 hr4 hr1=>Ai z z<|cb BH z z (c_S_l1In a2.2.2.1 0 9 x4 hr4) fun w5 hB5=>have hC5:=hC4.grow hB5;Ai z z<|Bv z z<|AK z z z<|Ae z z<|wk hr1 (fun hr1=>?_) fun hr1=>?_
  ·exact gs z z z z<|gs z z z z<|gs z z z z<|gs z z z z<|AJ z z z<|Ae z z<|gs z z z z<|gs z z z z<|gs z z z z<|gs z z z z<|AJ z z z<|Aa<|nS<|⟨true,Ab hr1,z,(((Ao hB3).then hB4).then hB5).below,hC5⟩
  refine Ai z z<|fd AI A7 z z z z<|Ai z z<|Al hC5 0 z z AU z z<|be hr1 fun x5 hr5 hr1=>Ai z z<|cb BH z z (c_S_l1In a2.2.2.2.1 0 99 x5 hr5) fun w6 hB6=>have hC6:=hC5.grow hB6;Ai z z<|Bv z z<|AK z z z<|Ae z z<|wk hr1 (fun hr1=>?_) fun hr1=>?_
  ·exact gs z z z z<|gs z z z z<|gs z z z z<|gs z z z z<|AJ z z z<|Aa<|nS<|⟨true,Ab hr1,z,((((Ao hB3).then hB4).then hB5).then hB6).below,hC6⟩
  exact Ai z z<|fd AI A7 z z z z<|Ai z z<|Al hC6 0 z z AU z z<|be hr1 fun x6 hr6 hr1=>Ai z z<|cb BH z z (c_S_l1In a2.2.2.2.2 1 99 x6 hr6) fun w7 hB7=>have hC7:=hC6.grow hB7;Ai z z<|Bv z z<|AK z z z<|Aa<|nS<|⟨(!x6),Ab hr1,z,(((((Ao hB3).then hB4).then hB5).then hB6).then hB7).below,hC7⟩
 rintro _ w2 ⟨x1,rfl,rfl,hB2,hC2⟩
 refine wc hF z (fun hF=>?_) fun hF=>?_
 ·exact Ac<|Af z z<|Aa<|AF<|Ax<|rB hF z z hC2
 refine A5<|Am<|A0<|Ac<|Af z z<|Aa<|be hF fun r2 hr7 hF=>wN (fun l w=>.inl ()=r2∧l=[]∧Below w2.heap.size w2 w∧Ctx [] w0 w []) ?_ ?_
 ·refine A4<|wT<|Bj (fun k l w=>∃x7:Int,l=[(0,u1),(3,(ptr b1 0)),(5,(I x7))]∧Below w2.heap.size w2 w∧Ctx [] w0 w [Ah b1 [(I a2.1),u2,(I a2.2.2.1),(I a2.2.2.2.1),(I a2.2.2.2.2)]]∧S.IsMethod_l1 a2 a1 k x7=some r2) FUEL ⟨0,z,(Aj _ _),hC2,hr7⟩<|?_
  clear hr7
  rintro k1 _ w9 ⟨x7,rfl,hB8,hC8,hL1⟩
  obtain _|k1:=k1<;>rw [S.IsMethod_l1] at hL1
  ·cases hL1
  refine A0<|Ac<|Ae z z<|fd AI Aq z z z z<|Al hC8 0 z z Au z z<|AH Ag g2 z z<|AZ z z z<|Aa<|wc hL1 z (fun hL1=>?_) fun hL1=>?_
  ·refine A5<|Am<|A0<|A4<|be hL1 fun r3 hr8 hL1=>B9 (fun l w=>∃x8:Bool,x8=r3∧l=[(0,u1),(3,(ptr b1 0)),(5,(I x7)),(73,(.bool x8))]∧Below w9.heap.size w9 w∧Ctx [] w0 w [Ah b1 [(I a2.1),u2,(I a2.2.2.1),(I a2.2.2.2.1),(I a2.2.2.2.2)]]) ?_ ?_
   ·refine W_drawn 31 z hmix fun w11 hB10=>have hC10:=hC8.grow hB10;tf 0 AI Aq z z z z z<|tm 2 z z z<|tm 5 z z z<|tf 6 AI A7 z z z z z<|be hr8 fun x9 hx1 hr8=>be hr8 fun x10 hx2 hr8=>wAS (l':=[(0,u1),(3,(ptr b1 0)),(5,(I x7)),(36,(I x7)),(37,(ptr b1 1)),(38,u2),(39,(I (List.length a2.2.1:Int))),(40,(.bool (decide (x7 < (List.length a2.2.1:Int))))),(43,(ptr b1 1)),(45,(I x7)),(48,u1),(49,(ptr b1 0))]) ⟨z,z,z,z,z,z,z,z,z,z,z,z,A6⟩<|Bg [⟨1,[],fun vs=>AQ u2,[]⟩,⟨3,[],fun vs=>Cd [] w0 x9,[]⟩,⟨4,[],fun vs=>AQ (I x9),[]⟩,⟨7,[],fun vs=>AQ (I a2.1),[]⟩,⟨8,[],fun vs=>Cd [] w0 x10,[]⟩,⟨9,[],fun vs=>AQ (I x10),[]⟩,⟨10,[],fun vs=>AQ (I (w64 (x10 - 1))),[]⟩] [[],[1],[3],[],[7],[8],[9]] 20 z (by kernel_rfl) (by kernel_rfl) z ?_ ?_
    ·refine An z ?_ ?_
     ·intro w12 hB11
      refine At<|⟨_,z,?_⟩
      exact Al (hC10.grow hB11) 0 z z Au z z<|Aa<|A1 (Aj _ _) z z ⟨z,z⟩
     refine An z ?_ ?_
     ·intro w12 hB11
      refine AG z z z ?_
      rintro _ _ ⟨rfl,rfl⟩ _
      refine At<|⟨_,z,?_⟩
      exact A9 Ag ty3 g2 hx1 z z z fun b2 o1 h1=>Aa<|A1 (Aj _ _) z z ⟨z,_,_,z,h1⟩
     refine An z ?_ ?_
     ·intro w12 hB11
      refine AG z z z ?_
      rintro _ _ ⟨rfl,b2,o1,rfl,h1⟩ _
      refine At<|⟨_,z,?_⟩
      refine AD ty3 h1 (hC10.keep.then hB11) z z (fun v1 h2=>?_)
      obtain rfl:=Bo h2
      exact Aa<|A1 (Aj _ _) z z ⟨z,z⟩
     refine An z ?_ ?_
     ·intro w12 hB11
      refine At<|⟨_,z,?_⟩
      exact Al (hC10.grow hB11) 0 z z AU z z<|Aa<|A1 (Aj _ _) z z ⟨z,z⟩
     refine An z ?_ ?_
     ·intro w12 hB11
      refine AG z z z ?_
      rintro _ _ ⟨rfl,rfl⟩ _
      refine At<|⟨_,z,?_⟩
      exact A9 Ag ty3 g1 hx2 z z z fun b3 o2 h3=>Aa<|A1 (Aj _ _) z z ⟨z,_,_,z,h3⟩
     refine An z ?_ ?_
     ·intro w12 hB11
      refine AG z z z ?_
      rintro _ _ ⟨rfl,b3,o2,rfl,h3⟩ _
      refine At<|⟨_,z,?_⟩
      refine AD ty3 h3 (hC10.keep.then hB11) z z (fun v2 h4=>?_)
      obtain rfl:=Bo h4
      exact Aa<|A1 (Aj _ _) z z ⟨z,z⟩
     refine An z ?_ ?_
     ·intro w12 hB11
      refine AG z z z ?_
      rintro _ _ ⟨rfl,rfl⟩ _
      refine At<|⟨_,z,?_⟩
      exact Cb z z z<|Aa<|A1 (Aj _ _) z z ⟨z,z⟩
     exact AX
    intro w13 hB12
    refine Ap z z z ?_
    rintro _ _ ⟨rfl,rfl⟩
    refine Ap z z z ?_
    rintro _ _ ⟨rfl,b2,o1,rfl,h1⟩
    refine Ap z z z ?_
    rintro _ _ ⟨rfl,rfl⟩
    refine Ap z z z ?_
    rintro _ _ ⟨rfl,rfl⟩
    refine Ap z z z ?_
    rintro _ _ ⟨rfl,b3,o2,rfl,h3⟩
    refine Ap z z z ?_
    rintro _ _ ⟨rfl,rfl⟩
    refine Ap z z z ?_
    rintro _ _ ⟨rfl,rfl⟩
    refine Bm fun hn1 hb1=>have hC11:=hC10.grow hB12;be hr8 fun x11 hr9 hr8=>oe 11 z<|cb BH z z (c_S_l1In x9 0 (w64 (x10 - 1)) x11 hr9) fun w14 hB13=>have hC12:=hC11.grow hB13;Aa<|tk 12 z z (Cw z)<|Bv z z<|Aa<|tm 13 z z z<|BJ (fun hc7=>?_) (fun hc7=>?_)
    ·replace hr8:=Cm hr8 hc7
     exact sk 14 z z z z z<|sk 15 z z z z z<|sk 16 z z z z z<|sk 17 z z z z z<|sk 18 z z z z z<|sk 19 z z z z z<|sk 20 z z z z z<|sk 21 z z z z z<|sk 22 z z z z z<|sk 23 z z z z z<|sk 24 z z z z z<|sk 25 z z z z z<|sk 26 z z z z z<|sk 27 z z z z z<|sk 28 z z z z z<|sk 29 z z z z z<|tp 30 z z z z<|dn<|nS<|⟨true,Ab hr8,z,(((Ao hB10).then hB12).then hB13).below,hC12⟩
    replace hr8:=Cn hr8 hc7
    refine tn 14 z z z z z<|tg 15 z z z z (fl_gtr z z)<|Ai z z<|Ck z z z<|Aa<|tn 16 z z z z z<|BJ (fun hc8=>?_) (fun hc8=>?_)
    ·replace hr8:=Cm hr8 hc8
     refine tg 17 z z z z (BC AI z z (fun w=>⟨_,Aq w⟩) z)<|Ai z z<|fd AI Aq z z z z<|Aa<|tn 19 z z z z z<|tg 22 z z z z (BC AI z z (fun w=>⟨_,Aq w⟩) z)<|Ai z z<|fd AI Aq z z z z<|Aa<|tn 24 z z z z z<|tg 25 z z z z (CO z z)<|Ai z z<|Cb z z z<|Aa<|be hr8 fun x12 hx3 hr8=>be hr8 fun x13 hx4 hr8=>wAS (l':=[(0,u1),(3,(ptr b1 0)),(5,(I x7)),(36,(I x7)),(37,(ptr b1 1)),(38,u2),(39,(I (List.length a2.2.1:Int))),(40,(.bool (decide (x7 < (List.length a2.2.1:Int))))),(43,(ptr b1 1)),(44,u2),(45,(I x7)),(46,(ptr b2 o1)),(47,(I x9)),(48,u1),(49,(ptr b1 0)),(50,(I a2.1)),(51,(ptr b3 o2)),(52,(I x10)),(53,(I (w64 (x10 - 1)))),(54,(.bool x11)),(55,(.bool (!x11))),(56,(.bool false)),(57,(I x7)),(58,(.bool (decide (0 < x7)))),(59,(.bool true)),(60,(ptr b1 1)),(62,(I x7)),(65,(ptr b1 1)),(67,(I x7)),(68,(I (w64 (x7 - 1))))]) ⟨z,z,z,z,z,z,z,z,z,z,z,z,z,z,z,z,z,z,z,z,z,z,z,z,z,z,z,z,z,z,A6⟩<|Bg [⟨18,[],fun vs=>AQ u2,[]⟩,⟨20,[],fun vs=>Cd [] w0 x12,[]⟩,⟨21,[],fun vs=>AQ (I x12),[]⟩,⟨23,[],fun vs=>AQ u2,[]⟩,⟨26,[],fun vs=>Cd [] w0 x13,[]⟩,⟨27,[],fun vs=>AQ (I x13),[]⟩] [[],[18],[20],[],[23],[26]] 3 z (by kernel_rfl) (by kernel_rfl) z ?_ ?_
     ·refine An z ?_ ?_
      ·intro w15 hB14
       refine At<|⟨_,z,?_⟩
       exact Ai z z<|Al (hC12.grow hB14) 0 z z Au z z<|Aa<|A1 (Aj _ _) z z ⟨z,z⟩
      refine An z ?_ ?_
      ·intro w15 hB14
       refine AG z z z ?_
       rintro _ _ ⟨rfl,rfl⟩ _
       refine At<|⟨_,z,?_⟩
       exact Ai z z<|A9 Ag ty3 g2 hx3 z z z fun b4 o3 h5=>Aa<|A1 (Aj _ _) z z ⟨z,_,_,z,h5⟩
      refine An z ?_ ?_
      ·intro w15 hB14
       refine AG z z z ?_
       rintro _ _ ⟨rfl,b4,o3,rfl,h5⟩ _
       refine At<|⟨_,z,?_⟩
       refine Ai z z<|AD ty3 h5 (hC12.keep.then hB14) z z fun v3 h6=>?_
       obtain rfl:=Bo h6
       exact Aa<|A1 (Aj _ _) z z ⟨z,z⟩
      refine An z ?_ ?_
      ·intro w15 hB14
       refine At<|⟨_,z,?_⟩
       exact Ai z z<|Al (hC12.grow hB14) 0 z z Au z z<|Aa<|A1 (Aj _ _) z z ⟨z,z⟩
      refine An z ?_ ?_
      ·intro w15 hB14
       refine AG z z z ?_
       rintro _ _ ⟨rfl,rfl⟩ _
       refine At<|⟨_,z,?_⟩
       exact Ai z z<|A9 Ag ty3 g2 hx4 z z z fun b5 o4 h7=>Aa<|A1 (Aj _ _) z z ⟨z,_,_,z,h7⟩
      refine An z ?_ ?_
      ·intro w15 hB14
       refine AG z z z ?_
       rintro _ _ ⟨rfl,b5,o4,rfl,h7⟩ _
       refine At<|⟨_,z,?_⟩
       refine Ai z z<|AD ty3 h7 (hC12.keep.then hB14) z z fun v4 h8=>?_
       obtain rfl:=Bo h8
       exact Aa<|A1 (Aj _ _) z z ⟨z,z⟩
      exact AX
     intro w16 hB15
     refine Ap z z z ?_
     rintro _ _ ⟨rfl,rfl⟩
     refine Ap z z z ?_
     rintro _ _ ⟨rfl,b4,o3,rfl,h5⟩
     refine Ap z z z ?_
     rintro _ _ ⟨rfl,rfl⟩
     refine Ap z z z ?_
     rintro _ _ ⟨rfl,rfl⟩
     refine Ap z z z ?_
     rintro _ _ ⟨rfl,b5,o4,rfl,h7⟩
     refine Ap z z z ?_
     rintro _ _ ⟨rfl,rfl⟩
     exact Bm fun hn2 hb2=>have hC13:=hC12.grow hB15;tg 28 z z z z (fl_leq z z)<|Ai z z<|Cv z z z<|Aa<|tg 29 z z z z (Df z z)<|Ai z z<|AJ z z z<|Aa<|tq 30 z z z z<|dn<|nS<|⟨(decide (x12 ≤ x13)),Ab hr8,z,((((Ao hB10).then hB12).then hB13).then hB15).below,hC13⟩
    replace hr8:=Cn hr8 hc8
    exact sk 17 z z z z z<|sk 18 z z z z z<|sk 19 z z z z z<|sk 20 z z z z z<|sk 21 z z z z z<|sk 22 z z z z z<|sk 23 z z z z z<|sk 24 z z z z z<|sk 25 z z z z z<|sk 26 z z z z z<|sk 27 z z z z z<|sk 28 z z z z z<|tg 29 z z z z (Dg z z)<|Ai z z<|AK z z z<|Aa<|tq 30 z z z z<|dn<|nS<|⟨false,Ab hr8,z,(((Ao hB10).then hB12).then hB13).below,hC12⟩
   rintro _ w10 ⟨x8,rfl,rfl,hB9,hC9⟩
   refine wc hL1 z (fun hL1=>?_) fun hL1=>?_
   ·refine Ac<|Af z z<|Aa<|AF<|AT<|Ax<|Ax<|AT<|Ax<|Ax<|?_
    obtain rfl:=Ab hL1
    dsimp only at hF
    exact rB hF z z hC9
   exact A5<|AN<|Am<|AL<|Ae z z<|AW z z z<|Af z z<|Aa<|nS<|⟨k1,Aw _,w64 (x7+1),z,((Ao hB8).then hB9).below,hC9,hL1⟩
  refine Bi (A2 (A2 (AM ?_)))
  have hC14:=hC8.h0
  exact nS<|⟨Ab hL1,z,(Ao hB8).below,hC14⟩
 rintro _ w17 ⟨rfl,rfl,hB16,hC15⟩
 try dsimp only at hF
 exact Ac<|Af z z<|Aa<|AF<|rB hF z z hC15
theorem c_S_AreMethods {w0:World} (a1:Ta) (u1:Value) (g1:RO [] w0 u1 a1) (a2:Tf) (u2:Value) (g2:RO [] w0 u2 a2) (rr:Bool) (hF:S.AreMethods a1 a2=some rr) :
 Calls Tryz.prog 47 [u1,u2].toArray w0 fun e w'=>∃v,e=.returned v∧Res w0 rr v w':=by
 refine Av Tryz.func47 z z ?_
 have hC0:=A3 w0
 unfold S.AreMethods at hF
 refine Ac<|Af z z<|Aa<|A0<|Ac<|Af z z<|Aa<|be hF fun r1 hr1 hF=>wN (fun l w=>.inl ()=r1∧l=[(0,u1),(1,u2)]∧Below w0.heap.size w0 w∧Ctx [] w0 w []) ?_ ?_
 ·refine A4<|wT<|Bj (fun k l w=>∃x1:Int,l=[(0,u1),(1,u2),(5,(I x1))]∧Below w0.heap.size w0 w∧Ctx [] w0 w []∧S.AreMethods_l1 a2 a1 k x1=some r1) FUEL ⟨0,z,(Aj _ _),hC0,hr1⟩<|?_
  clear hr1
  rintro k1 _ w1 ⟨x1,rfl,hB1,hC1,hL1⟩
  obtain _|k1:=k1<;>rw [S.AreMethods_l1] at hL1
  ·cases hL1
  refine A0<|Ac<|Ae z z<|Ae z z<|AH Bh g2 z z<|AZ z z z<|Aa<|wc hL1 z (fun hL1=>?_) fun hL1=>?_
  ·refine A5<|Am<|A0<|A4<|Ac<|Ae z z<|Ae z z<|Ae z z<|be hL1 fun x2 hx1 hL1=>A9 Bh ty110 g2 hx1 z z z fun b1 o1 h1=>AD ty110 h1 hC1.keep z z fun v1 h2=>?_
   obtain ⟨v2,rfl,h3⟩:=CW h2
   refine be hL1 fun x3 hr2 hL1=>cb Tryz.call88 z z (c_S_IsMethod a1 u1 (g1.now hC1.keep) x2 v2 (h3.now hC1.keep) x3 hr2) fun w2 hB2=>have hC2:=hC1.grow hB2;Bv z z<|Aa<|wc hL1 z (fun hL1=>?_) fun hL1=>?_
   ·refine Ac<|Af z z<|Aa<|AF<|AT<|Ax<|Ax<|AT<|Ax<|Ax<|?_
    obtain rfl:=Ab hL1
    dsimp only at hF
    exact rB hF z z hC2
   exact A5<|AN<|Am<|AL<|Ae z z<|AW z z z<|Af z z<|Aa<|nS<|⟨k1,Aw _,w64 (x1+1),z,((Ao hB1).then hB2).below,hC2,hL1⟩
  refine Bi (A2 (A2 (AM ?_)))
  exact nS<|⟨Ab hL1,z,(Ao hB1).below,hC1⟩
 rintro _ w3 ⟨rfl,rfl,hB3,hC3⟩
 try dsimp only at hF
 refine be hF fun r2 hr3 hF=>B9 (fun l w=>∃x4:Bool,x4=r2∧l=[(4,(.bool x4))]∧Below w3.heap.size w3 w∧Ctx [] w0 w []) ?_ ?_
 ·refine AL<|Ae z z<|be hr3 fun x5 hr4 hr3=>cb Cf z z (c_S_IsSchema a1 u1 (g1.now hC3.keep) x5 hr4) fun w5 hB5=>have hC5:=hC3.grow hB5;Ae z z<|wk hr3 (fun hr3=>?_) fun hr3=>?_
  ·exact Ai z z<|Ae z z<|Ai z z<|AH Bh g2 z z<|Ai z z<|Cv z z z<|AJ z z z<|Af z z<|Aa<|nS<|⟨(decide ((List.length a2:Int) ≤ 5)),Ab hr3,z,(Ao hB5).below,hC5⟩
  exact gs z z z z<|gs z z z z<|gs z z z z<|AK z z z<|Af z z<|Aa<|nS<|⟨false,Ab hr3,z,(Ao hB5).below,hC5⟩
 rintro _ w4 ⟨x4,rfl,rfl,hB4,hC4⟩
 exact AF<|rB hF z z hC4
theorem c_S_l1Byte {w0:World} {Fs:List Tn} (pb1:Nat) (a1:Ti) (u1:Value) (g1:RO Fs.flatten w0 u1 a1.1) (hH:Hold [Ah pb1 [u1,(I a1.2.1),(I a1.2.2)]] w0 Fs) (hn:Fs.flatten.Nodup) (rr:Ts) (hF:S.l1Byte a1=some rr) :
 Calls Tryz.prog 167 [(ptr pb1 0)].toArray w0 fun e w'=>∃v,e=.returned v∧v=(I rr.1)∧Ctx Fs.flatten w0 w' [Ah pb1 [u1,(I rr.2.2.1),(I rr.2.2.2)]]:=by
 refine Av Tryz.func167 z z ?_
 have hC0:=B7 hH hn
 unfold S.l1Byte at hF
 refine Ac<|Af z z<|Aa<|Ac<|Ae z z<|Ae z z<|Ci z z<|fd BF A7 z z z z<|Al hC0 0 z z AU z z<|WL_mul z z z<|AW z z z<|Ci z z<|fd BF A7 z z z z<|B2 (cs':=[u1,(I a1.2.1),(I (w64 ((w64 (a1.2.2 * 6364136223846793005))+1442695040888963407)))]) hC0 0 z z z z A7 z z fun w1 hC1 hKp1=>?_
 try dsimp only [List.set] at hC1
 refine Aa<|A0<|W_drawn 13 z hmix fun w2 hB1=>have hC2:=hC1.grow hB1;tm 0 z z z<|tk 1 z z (C3 z)<|Ci z z<|Aa<|tf 2 BF A7 z z z z z<|tm 5 z z z<|tk 6 z z (C3 z)<|Ci z z<|Aa<|tf 7 BF A7 z z z z z<|wAS (l':=[(0,(ptr pb1 0)),(2,(I 0)),(4,(ptr pb1 0)),(5,(ptr pb1 0)),(6,(ptr pb1 0)),(7,(ptr pb1 2)),(8,(I a1.2.2)),(9,(I (w64 (a1.2.2 * 6364136223846793005)))),(10,(I (w64 ((w64 (a1.2.2 * 6364136223846793005))+1442695040888963407)))),(11,(ptr pb1 0)),(12,(ptr pb1 2)),(13,(ptr pb1 0)),(14,(ptr pb1 0)),(15,(ptr pb1 2)),(18,(ptr pb1 0)),(19,(ptr pb1 0)),(20,(ptr pb1 2))]) ⟨z,z,z,z,z,z,z,z,z,z,z,z,z,z,z,z,z,A6⟩<|Bg [⟨3,[],fun vs=>AQ (I (w64 ((w64 (a1.2.2 * 6364136223846793005))+1442695040888963407))),[]⟩,⟨4,[],fun vs=>AQ (I (shr (w64 ((w64 (a1.2.2 * 6364136223846793005))+1442695040888963407)) 33)),[]⟩,⟨8,[],fun vs=>AQ (I (w64 ((w64 (a1.2.2 * 6364136223846793005))+1442695040888963407))),[]⟩,⟨9,[],fun vs=>AQ (I (shr (w64 ((w64 (a1.2.2 * 6364136223846793005))+1442695040888963407)) 45)),[]⟩] [[],[3],[],[8]] 3 z (by kernel_rfl) (by kernel_rfl) z ?_ ?_
 ·refine An z ?_ ?_
  ·intro w3 hB2
   refine At<|⟨_,z,?_⟩
   exact Al (hC2.grow hB2) 0 z z AU z z<|Aa<|A1 (Aj _ _) z z ⟨z,z⟩
  refine An z ?_ ?_
  ·intro w3 hB2
   refine AG z z z ?_
   rintro _ _ ⟨rfl,rfl⟩ _
   refine At<|⟨_,z,?_⟩
   exact WL_shr (by decide) z z z<|Aa<|A1 (Aj _ _) z z ⟨z,z⟩
  refine An z ?_ ?_
  ·intro w3 hB2
   refine At<|⟨_,z,?_⟩
   exact Al (hC2.grow hB2) 0 z z AU z z<|Aa<|A1 (Aj _ _) z z ⟨z,z⟩
  refine An z ?_ ?_
  ·intro w3 hB2
   refine AG z z z ?_
   rintro _ _ ⟨rfl,rfl⟩ _
   refine At<|⟨_,z,?_⟩
   exact WL_shr (by decide) z z z<|Aa<|A1 (Aj _ _) z z ⟨z,z⟩
  exact AX
 intro w4 hB3
 refine Ap z z z ?_
 rintro _ _ ⟨rfl,rfl⟩
 refine Ap z z z ?_
 rintro _ _ ⟨rfl,rfl⟩
 refine Ap z z z ?_
 rintro _ _ ⟨rfl,rfl⟩
 refine Ap z z z ?_
 rintro _ _ ⟨rfl,rfl⟩
 refine Bm fun hn1 hb1=>have hC3:=hC2.grow hB3;tk 10 z z (fl_bxor z z)<|WL_bxor z z z<|Aa<|tk 11 z z (fl_band z z)<|Dj z z z<|Aa<|ta 12 z z z<|dn<|Am<|A0<|A0<|W_drawn 10 z hmix fun w5 hB4=>have hC4:=hC3.grow hB4;tm 0 z z z<|tk 1 z z (C3 z)<|Ci z z<|Aa<|tf 2 BF A7 z z z z z<|tm 4 z z z<|tk 5 z z (C3 z)<|Ci z z<|Aa<|tf 6 BF Tryz.sizeOf22 z z z z z<|wAS (l':=[(0,(ptr pb1 0)),(2,(I 0)),(3,(I (band (bxor (shr (w64 ((w64 (a1.2.2 * 6364136223846793005))+1442695040888963407)) 33) (shr (w64 ((w64 (a1.2.2 * 6364136223846793005))+1442695040888963407)) 45)) 255))),(4,(ptr pb1 0)),(5,(ptr pb1 0)),(6,(ptr pb1 0)),(7,(ptr pb1 2)),(8,(I a1.2.2)),(9,(I (w64 (a1.2.2 * 6364136223846793005)))),(10,(I (w64 ((w64 (a1.2.2 * 6364136223846793005))+1442695040888963407)))),(11,(ptr pb1 0)),(12,(ptr pb1 2)),(13,(ptr pb1 0)),(14,(ptr pb1 0)),(15,(ptr pb1 2)),(16,(I (w64 ((w64 (a1.2.2 * 6364136223846793005))+1442695040888963407)))),(17,(I (shr (w64 ((w64 (a1.2.2 * 6364136223846793005))+1442695040888963407)) 33))),(18,(ptr pb1 0)),(19,(ptr pb1 0)),(20,(ptr pb1 2)),(21,(I (w64 ((w64 (a1.2.2 * 6364136223846793005))+1442695040888963407)))),(22,(I (shr (w64 ((w64 (a1.2.2 * 6364136223846793005))+1442695040888963407)) 45))),(23,(I (bxor (shr (w64 ((w64 (a1.2.2 * 6364136223846793005))+1442695040888963407)) 33) (shr (w64 ((w64 (a1.2.2 * 6364136223846793005))+1442695040888963407)) 45)))),(24,(I (band (bxor (shr (w64 ((w64 (a1.2.2 * 6364136223846793005))+1442695040888963407)) 33) (shr (w64 ((w64 (a1.2.2 * 6364136223846793005))+1442695040888963407)) 45)) 255))),(25,(ptr pb1 0)),(26,(ptr pb1 0)),(27,(ptr pb1 1)),(29,(ptr pb1 0)),(30,(ptr pb1 0)),(31,(ptr pb1 0))]) ⟨z,z,z,z,z,z,z,z,z,z,z,z,z,z,z,z,z,z,z,z,z,z,z,z,z,z,z,z,z,z,A6⟩<|Bg [⟨3,[],fun vs=>AQ (I a1.2.1),[]⟩,⟨7,[],fun vs=>AQ u1,[]⟩,⟨8,[],fun vs=>AQ (I (List.length a1.1:Int)),[]⟩] [[],[],[7]] 1 z (by kernel_rfl) (by kernel_rfl) z ?_ ?_
 ·refine An z ?_ ?_
  ·intro w6 hB5
   refine At<|⟨_,z,?_⟩
   exact Al (hC4.grow hB5) 0 z z AU z z<|Aa<|A1 (Aj _ _) z z ⟨z,z⟩
  refine An z ?_ ?_
  ·intro w6 hB5
   refine At<|⟨_,z,?_⟩
   exact Al (hC4.grow hB5) 0 z z Tryz.isAgg22 z z<|Aa<|A1 (Aj _ _) z z ⟨z,z⟩
  refine An z ?_ ?_
  ·intro w6 hB5
   refine AG z z z ?_
   rintro _ _ ⟨rfl,rfl⟩ _
   refine At<|⟨_,z,?_⟩
   exact AH BX g1 z z<|Aa<|A1 (Aj _ _) z z ⟨z,z⟩
  exact AX
 intro w7 hB6
 refine Ap z z z ?_
 rintro _ _ ⟨rfl,rfl⟩
 refine Ap z z z ?_
 rintro _ _ ⟨rfl,rfl⟩
 refine Ap z z z ?_
 rintro _ _ ⟨rfl,rfl⟩
 refine Bm fun hn2 hb2=>have hC5:=hC4.grow hB6;tk 9 z z (fl_lss z z)<|AZ z z z<|Aa<|dn<|Am<|be hF fun r1 hr1 hF=>wN (fun l w=>∃x1:Int,∃x2:Int,∃x3:Int,(x1,x2,x3)=r1∧l=[(3,(I x3))]∧Ctx Fs.flatten w0 w [Ah pb1 [u1,(I x1),(I x2)]]) ?_ ?_
 ·refine wc hr1 z (fun hr1=>?_) fun hr1=>?_
  ·refine A0<|W_drawn 15 z hmix fun w10 hB8=>have hC7:=hC5.grow hB8;tm 0 z z z<|tm 1 z z z<|tk 2 z z (C3 z)<|Ci z z<|Aa<|tf 3 BF Tryz.sizeOf22 z z z z z<|tm 5 z z z<|tk 6 z z (C3 z)<|Ci z z<|Aa<|tf 7 BF A7 z z z z z<|wAS (l':=[(0,(ptr pb1 0)),(2,(I 0)),(3,(I (band (bxor (shr (w64 ((w64 (a1.2.2 * 6364136223846793005))+1442695040888963407)) 33) (shr (w64 ((w64 (a1.2.2 * 6364136223846793005))+1442695040888963407)) 45)) 255))),(4,(ptr pb1 0)),(5,(ptr pb1 0)),(6,(ptr pb1 0)),(7,(ptr pb1 2)),(8,(I a1.2.2)),(9,(I (w64 (a1.2.2 * 6364136223846793005)))),(10,(I (w64 ((w64 (a1.2.2 * 6364136223846793005))+1442695040888963407)))),(11,(ptr pb1 0)),(12,(ptr pb1 2)),(13,(ptr pb1 0)),(14,(ptr pb1 0)),(15,(ptr pb1 2)),(16,(I (w64 ((w64 (a1.2.2 * 6364136223846793005))+1442695040888963407)))),(17,(I (shr (w64 ((w64 (a1.2.2 * 6364136223846793005))+1442695040888963407)) 33))),(18,(ptr pb1 0)),(19,(ptr pb1 0)),(20,(ptr pb1 2)),(21,(I (w64 ((w64 (a1.2.2 * 6364136223846793005))+1442695040888963407)))),(22,(I (shr (w64 ((w64 (a1.2.2 * 6364136223846793005))+1442695040888963407)) 45))),(23,(I (bxor (shr (w64 ((w64 (a1.2.2 * 6364136223846793005))+1442695040888963407)) 33) (shr (w64 ((w64 (a1.2.2 * 6364136223846793005))+1442695040888963407)) 45)))),(24,(I (band (bxor (shr (w64 ((w64 (a1.2.2 * 6364136223846793005))+1442695040888963407)) 33) (shr (w64 ((w64 (a1.2.2 * 6364136223846793005))+1442695040888963407)) 45)) 255))),(25,(ptr pb1 0)),(26,(ptr pb1 0)),(27,(ptr pb1 1)),(28,(I a1.2.1)),(29,(ptr pb1 0)),(30,(ptr pb1 0)),(31,(ptr pb1 0)),(32,u1),(33,(I (List.length a1.1:Int))),(34,(.bool (decide (a1.2.1 < (List.length a1.1:Int))))),(35,(I (band (bxor (shr (w64 ((w64 (a1.2.2 * 6364136223846793005))+1442695040888963407)) 33) (shr (w64 ((w64 (a1.2.2 * 6364136223846793005))+1442695040888963407)) 45)) 255))),(36,(ptr pb1 0)),(37,(ptr pb1 0)),(38,(ptr pb1 0)),(40,(ptr pb1 0)),(41,(ptr pb1 0)),(42,(ptr pb1 1))]) ⟨z,z,z,z,z,z,z,z,z,z,z,z,z,z,z,z,z,z,z,z,z,z,z,z,z,z,z,z,z,z,z,z,z,z,z,z,z,z,z,z,z,A6⟩<|Bg [⟨4,[],fun vs=>AQ u1,[]⟩,⟨8,[],fun vs=>AQ (I a1.2.1),[]⟩] [[],[]] 6 z (by kernel_rfl) (by kernel_rfl) z ?_ ?_
   ·refine An z ?_ ?_
    ·intro w11 hB9
     refine At<|⟨_,z,?_⟩
     exact Al (hC7.grow hB9) 0 z z Tryz.isAgg22 z z<|Aa<|A1 (Aj _ _) z z ⟨z,z⟩
    refine An z ?_ ?_
    ·intro w11 hB9
     refine At<|⟨_,z,?_⟩
     exact Al (hC7.grow hB9) 0 z z AU z z<|Aa<|A1 (Aj _ _) z z ⟨z,z⟩
    exact AX
   intro w12 hB10
   refine Ap z z z ?_
   rintro _ _ ⟨rfl,rfl⟩
   refine Ap z z z ?_
   rintro _ _ ⟨rfl,rfl⟩
   refine Bm fun hn3 hb3=>have hC8:=hC7.grow hB10;be hr1 fun x4 hx1 hr1=>tk 9 z z (B5 BX ty5 g1 hx1 z z)<|A9 BX ty5 g1 hx1 z z z fun b1 o1 h1=>Aa<|oe 10 z<|AD ty5 h1 hC8.keep z z fun v1 h2=>?_
   obtain rfl:=ro_u8 h2
   refine Aa<|tk 11 z z (fl_conv_int CN Cu z)<|WL_conv_i64 CN Cu z z<|Aa<|tk 12 z z (fl_add z z)<|AW z z z<|Aa<|tk 13 z z (fl_band z z)<|Dj z z z<|Aa<|ta 14 z z z<|dn<|Am<|AL<|Ae z z<|Ae z z<|Ci z z<|fd BF A7 z z z z<|Al hC8 0 z z AU z z<|AW z z z<|Ci z z<|fd BF A7 z z z z<|B2 (cs':=[u1,(I (w64 (a1.2.1+1))),(I (w64 ((w64 (a1.2.2 * 6364136223846793005))+1442695040888963407)))]) hC8 0 z z z z A7 z z fun w13 hC9 hKp2=>?_
   try dsimp only [List.set] at hC9
   exact Aa<|nS<|⟨w64 (a1.2.1+1),w64 ((w64 (a1.2.2 * 6364136223846793005))+1442695040888963407),band (w64 ((band (bxor (shr (w64 ((w64 (a1.2.2 * 6364136223846793005))+1442695040888963407)) 33) (shr (w64 ((w64 (a1.2.2 * 6364136223846793005))+1442695040888963407)) 45)) 255)+(w64 (UInt8.toNat x4:Int)))) 255,Ab hr1,z,hC9⟩
  exact A5<|nS<|⟨a1.2.1,w64 ((w64 (a1.2.2 * 6364136223846793005))+1442695040888963407),band (bxor (shr (w64 ((w64 (a1.2.2 * 6364136223846793005))+1442695040888963407)) 33) (shr (w64 ((w64 (a1.2.2 * 6364136223846793005))+1442695040888963407)) 45)) 255,Ab hr1,z,hC5⟩
 rintro _ w9 ⟨x1,x2,x3,rfl,rfl,hC6⟩
 try dsimp only at hF
 refine Ac<|Ae z z<|Af z z<|Aa<|AF<|?_
 obtain rfl:=Ab hF
 exact BI z z<|⟨_,z,z,hC6⟩
theorem c_S_l1Below {w0:World} {Fs:List Tn} (pb1:Nat) (a1:Ti) (u1:Value) (g1:RO Fs.flatten w0 u1 a1.1) (a2:Int) (hH:Hold [Ah pb1 [u1,(I a1.2.1),(I a1.2.2)]] w0 Fs) (hn:Fs.flatten.Nodup) (rr:Ts) (hF:S.l1Below a1 a2=some rr) :
 Calls Tryz.prog 111 [(ptr pb1 0),(I a2)].toArray w0 fun e w'=>∃v,e=.returned v∧v=(I rr.1)∧Ctx Fs.flatten w0 w' [Ah pb1 [u1,(I rr.2.2.1),(I rr.2.2.2)]]:=by
 refine Av Tryz.func111 z z ?_
 have hC0:=B7 hH hn
 unfold S.l1Below at hF
 refine Ac<|Af z z<|Aa<|A0<|Ac<|Ae z z<|Cv z z z<|Aa<|wc hF z (fun hF=>?_) fun hF=>?_
 ·refine Ac<|Af z z<|Aa<|AF<|Ax<|?_
  obtain rfl:=Ab hF
  exact BI z z<|⟨_,z,z,hC0⟩
 refine A5<|Am<|A0<|Ac<|Ae z z<|Cv z z z<|Aa<|wc hF z (fun hF=>?_) fun hF=>?_
 ·refine Ac<|Ae z z<|be hF fun x1 hr1 hF=>?_
  obtain ⟨Fs1,hH1,hn1,hF1,hO1,hb1⟩:=hC0.lA
  refine AA C8 z z (c_S_l1Byte pb1 (a1.1,a1.2.1,a1.2.2) u1 (Bd g1 hC0.keep hF1) hH1 hn1 x1 hr1) ?_
  rintro _ w1 ⟨rfl,hq2⟩
  have hC1:=hb1 _ _ hq2
  refine Ae z z<|be hF fun _ hx1 hF=>WL_rem (nz_some hx1) z z z<|Af z z<|Aa<|AF<|Ax<|?_
  obtain rfl:=Ab hF
  exact BI z z<|⟨_,z,z,hC1⟩
 refine A5<|Am<|Ac<|Ae z z<|be hF fun x2 hr2 hF=>?_
 obtain ⟨Fs2,hH2,hn2,hF2,hO2,hb2⟩:=hC0.lA
 refine AA C8 z z (c_S_l1Byte pb1 (a1.1,a1.2.1,a1.2.2) u1 (Bd g1 hC0.keep hF2) hH2 hn2 x2 hr2) ?_
 rintro _ w2 ⟨rfl,hq4⟩
 have hC2:=hb2 _ _ hq4
 refine Af z z<|Aa<|Ac<|Ae z z<|be hF fun x3 hr3 hF=>?_
 obtain ⟨Fs3,hH3,hn3,hF3,hO3,hb3⟩:=hC2.lA
 refine AA C8 z z (c_S_l1Byte pb1 (a1.1,x2.2.2.1,x2.2.2.2) u1 (Bd g1 hC2.keep hF3) hH3 hn3 x3 hr3) ?_
 rintro _ w3 ⟨rfl,hq5⟩
 have hC3:=hb3 _ _ hq5
 refine Af z z<|Aa<|Ac<|Ae z z<|be hF fun x4 hr4 hF=>?_
 obtain ⟨Fs4,hH4,hn4,hF4,hO4,hb4⟩:=hC3.lA
 refine AA C8 z z (c_S_l1Byte pb1 (a1.1,x3.2.2.1,x3.2.2.2) u1 (Bd g1 hC3.keep hF4) hH4 hn4 x4 hr4) ?_
 rintro _ w4 ⟨rfl,hq6⟩
 have hC4:=hb4 _ _ hq6
 refine Af z z<|Aa<|Ac<|Ae z z<|be hF fun x5 hr5 hF=>?_
 obtain ⟨Fs5,hH5,hn5,hF5,hO5,hb5⟩:=hC4.lA
 refine AA C8 z z (c_S_l1Byte pb1 (a1.1,x4.2.2.1,x4.2.2.2) u1 (Bd g1 hC4.keep hF5) hH5 hn5 x5 hr5) ?_
 rintro _ w5 ⟨rfl,hq7⟩
 have hC5:=hb5 _ _ hq7
 refine Af z z<|Aa<|Ac<|Ae z z<|WL_mul z z z<|Ae z z<|WL_mul z z z<|AW z z z<|Ae z z<|WL_mul z z z<|AW z z z<|Ae z z<|AW z z z<|Ae z z<|be hF fun _ hx2 hF=>WL_rem (nz_some hx2) z z z<|Af z z<|Aa<|AF<|?_
 obtain rfl:=Ab hF
 exact BI z z<|⟨_,z,z,hC5⟩
theorem c_S_l1Once {w0:World} {Fs:List Tn} (pb1:Nat) (a1:Ti) (u1:Value) (g1:RO Fs.flatten w0 u1 a1.1) (a2:Int) (hH:Hold [Ah pb1 [u1,(I a1.2.1),(I a1.2.2)]] w0 Fs) (hn:Fs.flatten.Nodup) (rr:(Bool × Ti)) (hF:S.l1Once a1 a2=some rr) :
 Calls Tryz.prog 113 [(ptr pb1 0),(I a2)].toArray w0 fun e w'=>∃v,e=.returned v∧v=(.bool rr.1)∧Ctx Fs.flatten w0 w' [Ah pb1 [u1,(I rr.2.2.1),(I rr.2.2.2)]]:=by
 refine Av Tryz.func113 z z ?_
 have hC0:=B7 hH hn
 unfold S.l1Once at hF
 refine Ac<|Af z z<|Aa<|Ac<|Ae z z<|Ae z z<|be hF fun x1 hr1 hF=>?_
 obtain ⟨Fs1,hH1,hn1,hF1,hO1,hb1⟩:=hC0.lA
 refine AA Bp z z (c_S_l1Below pb1 (a1.1,a1.2.1,a1.2.2) u1 (Bd g1 hC0.keep hF1) a2 hH1 hn1 x1 hr1) ?_
 rintro _ w1 ⟨rfl,hq1⟩
 have hC1:=hb1 _ _ hq1
 refine BD z z z<|Af z z<|Aa<|AF<|?_
 obtain rfl:=Ab hF
 exact BI z z<|⟨_,z,z,hC1⟩
theorem c_S_CompareFacts {w0:World} (a1:Tb) (u1:Value) (g1:RO [] w0 u1 a1.2) (a2:Tb) (u2:Value) (g2:RO [] w0 u2 a2.2) (rr:Int) (hF:S.CompareFacts a1 a2=some rr) :
 Calls Tryz.prog 53 [(.agg #[(I a1.1),u1]),(.agg #[(I a2.1),u2])].toArray w0 fun e w'=>∃v,e=.returned v∧Res w0 rr v w':=by
 refine Av Tryz.func53 z z ?_
 have hC0:=A3 w0
 unfold S.CompareFacts at hF
 refine Ac<|Be (cs:=[(I a1.1),u1]) hC0 z z z fun b1 w1 hC1 hB1 hN1=>Be (cs:=[(I a2.1),u2]) hC1 z z z fun b2 w2 hC2 hB2 hN2=>Af z z<|Aa<|A0<|Ac<|fd AB A7 z z z z<|Al hC2 1 z z AU z z<|fd AB A7 z z z z<|Al hC2 0 z z AU z z<|BQ z z z<|Aa<|wc hF z (fun hF=>?_) fun hF=>?_
 ·refine A0<|Ac<|fd AB A7 z z z z<|Al hC2 1 z z AU z z<|fd AB A7 z z z z<|Al hC2 0 z z AU z z<|AZ z z z<|Aa<|wc hF z (fun hF=>?_) fun hF=>?_
  ·exact Ac<|Af z z<|Aa<|AF<|Ax<|Ax<|rI hF z z hC2
  exact A5<|Am<|Ac<|Af z z<|Aa<|AF<|Ax<|rI hF z z hC2
 refine A5<|Am<|A0<|Ac<|Af z z<|Aa<|be hF fun r1 hr1 hF=>wN (fun l w=>.inl ()=r1∧l=[(2,(ptr b1 0)),(3,(ptr b2 0))]∧Below w2.heap.size w2 w∧Ctx [] w0 w [Ah b2 [(I a2.1),u2],Ah b1 [(I a1.1),u1]]) ?_ ?_
 ·refine A4<|wT<|Bj (fun k l w=>∃x1:Int,l=[(2,(ptr b1 0)),(3,(ptr b2 0)),(5,(I x1))]∧Below w2.heap.size w2 w∧Ctx [] w0 w [Ah b2 [(I a2.1),u2],Ah b1 [(I a1.1),u1]]∧S.CompareFacts_l1 a1 a2 k x1=some r1) FUEL ⟨0,z,(Aj _ _),hC2,hr1⟩<|?_
  clear hr1
  rintro k1 _ w3 ⟨x1,rfl,hB3,hC3,hL1⟩
  obtain _|k1:=k1<;>rw [S.CompareFacts_l1] at hL1
  ·cases hL1
  refine A0<|be hL1 fun r2 hr2 hL1=>B9 (fun l w=>∃x2:Bool,x2=r2∧l=[(2,(ptr b1 0)),(3,(ptr b2 0)),(5,(I x1)),(27,(.bool x2))]∧Below w3.heap.size w3 w∧Ctx [] w0 w [Ah b2 [(I a2.1),u2],Ah b1 [(I a1.1),u1]]) ?_ ?_
  ·refine AL<|Ae z z<|fd AB Aq z z z z<|Al hC3 1 z z Au z z<|AH Ag g1 z z<|AZ z z z<|Ae z z<|wk hr2 (fun hr2=>?_) fun hr2=>?_
   ·exact Ai z z<|Ae z z<|Ai z z<|fd AB Aq z z z z<|Ai z z<|Al hC3 0 z z Au z z<|Ai z z<|AH Ag g2 z z<|Ai z z<|AZ z z z<|AJ z z z<|Aa<|nS<|⟨(decide (x1 < (List.length a2.2:Int))),Ab hr2,z,(Aj _ _),hC3⟩
   exact gs z z z z<|gs z z z z<|gs z z z z<|gs z z z z<|gs z z z z<|AK z z z<|Aa<|nS<|⟨false,Ab hr2,z,(Aj _ _),hC3⟩
  rintro _ w4 ⟨x2,rfl,rfl,hB4,hC4⟩
  refine wc hL1 z (fun hL1=>?_) fun hL1=>?_
  ·refine A5<|Am<|A0<|A4<|A0<|A0<|W_drawn 11 z hmix fun w5 hB5=>have hC5:=hC4.grow hB5;tf 0 AB Aq z z z z z<|tm 2 z z z<|tf 5 AB Aq z z z z z<|tm 7 z z z<|be hL1 fun x3 hx1 hL1=>be hL1 fun x4 hx2 hL1=>wAS (l':=[(2,(ptr b1 0)),(3,(ptr b2 0)),(5,(I x1)),(27,(.bool x2)),(30,(ptr b1 1)),(32,(I x1)),(35,(ptr b2 1)),(37,(I x1))]) ⟨z,z,z,z,z,z,z,z,A6⟩<|Bg [⟨1,[],fun vs=>AQ u1,[]⟩,⟨3,[],fun vs=>Cd [] w0 x3,[]⟩,⟨4,[],fun vs=>AQ (I x3),[]⟩,⟨6,[],fun vs=>AQ u2,[]⟩,⟨8,[],fun vs=>Cd [] w0 x4,[]⟩,⟨9,[],fun vs=>AQ (I x4),[]⟩] [[],[1],[3],[],[6],[8]] 1 z (by kernel_rfl) (by kernel_rfl) z ?_ ?_
   ·refine An z ?_ ?_
    ·intro w6 hB6
     refine At<|⟨_,z,?_⟩
     exact Al (hC5.grow hB6) 1 z z Au z z<|Aa<|A1 (Aj _ _) z z ⟨z,z⟩
    refine An z ?_ ?_
    ·intro w6 hB6
     refine AG z z z ?_
     rintro _ _ ⟨rfl,rfl⟩ _
     refine At<|⟨_,z,?_⟩
     exact A9 Ag ty3 g1 hx1 z z z fun b3 o1 h1=>Aa<|A1 (Aj _ _) z z ⟨z,_,_,z,h1⟩
    refine An z ?_ ?_
    ·intro w6 hB6
     refine AG z z z ?_
     rintro _ _ ⟨rfl,b3,o1,rfl,h1⟩ _
     refine At<|⟨_,z,?_⟩
     refine AD ty3 h1 (hC5.keep.then hB6) z z (fun v1 h2=>?_)
     obtain rfl:=Bo h2
     exact Aa<|A1 (Aj _ _) z z ⟨z,z⟩
    refine An z ?_ ?_
    ·intro w6 hB6
     refine At<|⟨_,z,?_⟩
     exact Al (hC5.grow hB6) 0 z z Au z z<|Aa<|A1 (Aj _ _) z z ⟨z,z⟩
    refine An z ?_ ?_
    ·intro w6 hB6
     refine AG z z z ?_
     rintro _ _ ⟨rfl,rfl⟩ _
     refine At<|⟨_,z,?_⟩
     exact A9 Ag ty3 g2 hx2 z z z fun b4 o2 h3=>Aa<|A1 (Aj _ _) z z ⟨z,_,_,z,h3⟩
    refine An z ?_ ?_
    ·intro w6 hB6
     refine AG z z z ?_
     rintro _ _ ⟨rfl,b4,o2,rfl,h3⟩ _
     refine At<|⟨_,z,?_⟩
     refine AD ty3 h3 (hC5.keep.then hB6) z z (fun v2 h4=>?_)
     obtain rfl:=Bo h4
     exact Aa<|A1 (Aj _ _) z z ⟨z,z⟩
    exact AX
   intro w7 hB7
   refine Ap z z z ?_
   rintro _ _ ⟨rfl,rfl⟩
   refine Ap z z z ?_
   rintro _ _ ⟨rfl,b3,o1,rfl,h1⟩
   refine Ap z z z ?_
   rintro _ _ ⟨rfl,rfl⟩
   refine Ap z z z ?_
   rintro _ _ ⟨rfl,rfl⟩
   refine Ap z z z ?_
   rintro _ _ ⟨rfl,b4,o2,rfl,h3⟩
   refine Ap z z z ?_
   rintro _ _ ⟨rfl,rfl⟩
   refine Bm fun hn1 hb1=>have hC6:=hC5.grow hB7;tk 10 z z (fl_lss z z)<|AZ z z z<|Aa<|dn<|Am<|wc hL1 z (fun hL1=>?_) fun hL1=>?_
   ·refine Ac<|Af z z<|Aa<|AF<|Ax<|AT<|Ax<|Ax<|AT<|Ax<|Ax<|?_
    obtain rfl:=Ab hL1
    dsimp only at hF
    exact rI hF z z hC6
   refine A5<|Am<|A0<|W_drawn 11 z hmix fun w9 hB8=>have hC7:=hC6.grow hB8;tf 0 AB Aq z z z z z<|tm 2 z z z<|tf 5 AB Aq z z z z z<|tm 7 z z z<|be hL1 fun x5 hx3 hL1=>be hL1 fun x6 hx4 hL1=>wAS (l':=[(2,(ptr b1 0)),(3,(ptr b2 0)),(5,(I x1)),(27,(.bool x2)),(30,(ptr b1 1)),(31,u1),(32,(I x1)),(33,(ptr b3 o1)),(34,(I x3)),(35,(ptr b2 1)),(36,u2),(37,(I x1)),(38,(ptr b4 o2)),(39,(I x4)),(40,(.bool (decide (x3 < x4)))),(41,(ptr b1 1)),(43,(I x1)),(46,(ptr b2 1)),(48,(I x1))]) ⟨z,z,z,z,z,z,z,z,z,z,z,z,z,z,z,z,z,z,z,A6⟩<|Bg [⟨1,[],fun vs=>AQ u1,[]⟩,⟨3,[],fun vs=>Cd [] w0 x5,[]⟩,⟨4,[],fun vs=>AQ (I x5),[]⟩,⟨6,[],fun vs=>AQ u2,[]⟩,⟨8,[],fun vs=>Cd [] w0 x6,[]⟩,⟨9,[],fun vs=>AQ (I x6),[]⟩] [[],[1],[3],[],[6],[8]] 1 z (by kernel_rfl) (by kernel_rfl) z ?_ ?_
   ·refine An z ?_ ?_
    ·intro w10 hB9
     refine At<|⟨_,z,?_⟩
     exact Al (hC7.grow hB9) 1 z z Au z z<|Aa<|A1 (Aj _ _) z z ⟨z,z⟩
    refine An z ?_ ?_
    ·intro w10 hB9
     refine AG z z z ?_
     rintro _ _ ⟨rfl,rfl⟩ _
     refine At<|⟨_,z,?_⟩
     exact A9 Ag ty3 g1 hx3 z z z fun b5 o3 h5=>Aa<|A1 (Aj _ _) z z ⟨z,_,_,z,h5⟩
    refine An z ?_ ?_
    ·intro w10 hB9
     refine AG z z z ?_
     rintro _ _ ⟨rfl,b5,o3,rfl,h5⟩ _
     refine At<|⟨_,z,?_⟩
     refine AD ty3 h5 (hC7.keep.then hB9) z z (fun v3 h6=>?_)
     obtain rfl:=Bo h6
     exact Aa<|A1 (Aj _ _) z z ⟨z,z⟩
    refine An z ?_ ?_
    ·intro w10 hB9
     refine At<|⟨_,z,?_⟩
     exact Al (hC7.grow hB9) 0 z z Au z z<|Aa<|A1 (Aj _ _) z z ⟨z,z⟩
    refine An z ?_ ?_
    ·intro w10 hB9
     refine AG z z z ?_
     rintro _ _ ⟨rfl,rfl⟩ _
     refine At<|⟨_,z,?_⟩
     exact A9 Ag ty3 g2 hx4 z z z fun b6 o4 h7=>Aa<|A1 (Aj _ _) z z ⟨z,_,_,z,h7⟩
    refine An z ?_ ?_
    ·intro w10 hB9
     refine AG z z z ?_
     rintro _ _ ⟨rfl,b6,o4,rfl,h7⟩ _
     refine At<|⟨_,z,?_⟩
     refine AD ty3 h7 (hC7.keep.then hB9) z z (fun v4 h8=>?_)
     obtain rfl:=Bo h8
     exact Aa<|A1 (Aj _ _) z z ⟨z,z⟩
    exact AX
   intro w11 hB10
   refine Ap z z z ?_
   rintro _ _ ⟨rfl,rfl⟩
   refine Ap z z z ?_
   rintro _ _ ⟨rfl,b5,o3,rfl,h5⟩
   refine Ap z z z ?_
   rintro _ _ ⟨rfl,rfl⟩
   refine Ap z z z ?_
   rintro _ _ ⟨rfl,rfl⟩
   refine Ap z z z ?_
   rintro _ _ ⟨rfl,b6,o4,rfl,h7⟩
   refine Ap z z z ?_
   rintro _ _ ⟨rfl,rfl⟩
   refine Bm fun hn2 hb2=>have hC8:=hC7.grow hB10;tk 10 z z (fl_gtr z z)<|Ck z z z<|Aa<|dn<|Am<|wc hL1 z (fun hL1=>?_) fun hL1=>?_
   ·refine Ac<|Af z z<|Aa<|AF<|AT<|Ax<|Ax<|AT<|Ax<|Ax<|?_
    obtain rfl:=Ab hL1
    dsimp only at hF
    exact rI hF z z hC8
   exact A5<|AN<|Am<|AL<|Ae z z<|AW z z z<|Af z z<|Aa<|nS<|⟨k1,Aw _,w64 (x1+1),z,((((((Ao hB3).then hB4).then hB5).then hB7).then hB8).then hB10).below,hC8,hL1⟩
  refine Bi (A2 (A2 (AM ?_)))
  exact nS<|⟨Ab hL1,z,((Ao hB3).then hB4).below,hC4⟩
 rintro _ w12 ⟨rfl,rfl,hB11,hC9⟩
 try dsimp only at hF
 refine A0<|Ac<|fd AB Aq z z z z<|Al hC9 1 z z Au z z<|AH Ag g1 z z<|fd AB Aq z z z z<|Al hC9 0 z z Au z z<|AH Ag g2 z z<|AZ z z z<|Aa<|wc hF z (fun hF=>?_) fun hF=>?_
 ·exact Ac<|Af z z<|Aa<|AF<|Ax<|rI hF z z hC9
 refine A5<|Am<|A0<|Ac<|fd AB Aq z z z z<|Al hC9 1 z z Au z z<|AH Ag g1 z z<|fd AB Aq z z z z<|Al hC9 0 z z Au z z<|AH Ag g2 z z<|Ck z z z<|Aa<|wc hF z (fun hF=>?_) fun hF=>?_
 ·exact Ac<|Af z z<|Aa<|AF<|Ax<|rI hF z z hC9
 exact A5<|Am<|Ac<|Af z z<|Aa<|AF<|rI hF z z hC9
theorem c_S_HasFact {w0:World} (a1:Tc) (u1:Value) (g1:RO [] w0 u1 a1) (a2:Tb) (u2:Value) (g2:RO [] w0 u2 a2.2) (rr:Bool) (hF:S.HasFact a1 a2=some rr) :
 Calls Tryz.prog 54 [u1,(.agg #[(I a2.1),u2])].toArray w0 fun e w'=>∃v,e=.returned v∧Res w0 rr v w':=by
 refine Av Tryz.func54 z z ?_
 have hC0:=A3 w0
 unfold S.HasFact at hF
 refine Ac<|Be (cs:=[(I a2.1),u2]) hC0 z z z fun b1 w1 hC1 hB1 hN1=>Af z z<|Aa<|A0<|Ac<|Af z z<|Aa<|be hF fun r1 hr1 hF=>wN (fun l w=>.inl ()=r1∧l=[]∧Below w1.heap.size w1 w∧Ctx [] w0 w []) ?_ ?_
 ·refine A4<|wT<|Bj (fun k l w=>∃x1:Int,l=[(0,u1),(3,(ptr b1 0)),(5,(I x1))]∧Below w1.heap.size w1 w∧Ctx [] w0 w [Ah b1 [(I a2.1),u2]]∧S.HasFact_l1 a1 a2 k x1=some r1) FUEL ⟨0,z,(Aj _ _),hC1,hr1⟩<|?_
  clear hr1
  rintro k1 _ w2 ⟨x1,rfl,hB2,hC2,hL1⟩
  obtain _|k1:=k1<;>rw [S.HasFact_l1] at hL1
  ·cases hL1
  refine A0<|Ac<|Ae z z<|Ae z z<|AH Ak g1 z z<|AZ z z z<|Aa<|wc hL1 z (fun hL1=>?_) fun hL1=>?_
  ·refine A5<|Am<|A0<|A4<|A0<|W_drawn 7 z hmix fun w3 hB3=>have hC3:=hC2.grow hB3;tm 0 z z z<|tm 1 z z z<|be hL1 fun x2 hx1 hL1=>tk 2 z z (B5 Ak ty77 g1 hx1 z z)<|A9 Ak ty77 g1 hx1 z z z fun b2 o1 h1=>Aa<|wAS (l':=[(0,u1),(3,(ptr b1 0)),(5,(I x1)),(6,(I x1)),(7,u1),(8,(I (List.length a1:Int))),(9,(.bool (decide (x1 < (List.length a1:Int))))),(12,u1),(13,(I x1)),(14,(ptr b2 o1))]) ⟨z,z,z,z,z,z,z,z,z,z,A6⟩<|Bg [⟨3,[],fun vs=>Cj [] w0 x2,[]⟩,⟨4,[],fun vs=>AQ (.agg #[(I a2.1),u2]),[]⟩] [[],[]] 2 z (by kernel_rfl) (by kernel_rfl) z ?_ ?_
   ·refine An z ?_ ?_
    ·intro w4 hB4
     refine At<|⟨_,z,?_⟩
     exact AD ty77 h1 (hC3.keep.then hB4) z z fun v3 h4=>Aa<|A1 (Aj _ _) z z ⟨z,h4⟩
    refine An z ?_ ?_
    ·intro w4 hB4
     refine At<|⟨_,z,?_⟩
     exact Az [(I a2.1),u2] (hC3.grow hB4) 0 z z z Bw Bb z z<|Aa<|A1 (Aj _ _) z z ⟨z,z⟩
    exact AX
   intro w5 hB5
   refine Ap z z z ?_
   rintro v3 _ ⟨rfl,h4⟩
   obtain ⟨v2,rfl,h3⟩:=BE h4
   refine Ap z z z ?_
   rintro _ _ ⟨rfl,rfl⟩
   refine Bm fun hn1 hb1=>have hC4:=hC3.grow hB5;be hL1 fun x3 hr2 hL1=>oe 5 z<|ci CX z z (c_S_CompareFacts x2 v2 (h3.now hC4.keep) (a2.1,a2.2) u2 (g2.now hC4.keep) x3 hr2) fun w6 hB6=>have hC5:=hC4.grow hB6;Aa<|tk 6 z z (Dl z z)<|BD z z z<|Aa<|dn<|Am<|wc hL1 z (fun hL1=>?_) fun hL1=>?_
   ·refine Ac<|Af z z<|Aa<|AF<|AT<|Ax<|Ax<|AT<|Ax<|Ax<|?_
    obtain rfl:=Ab hL1
    dsimp only at hF
    exact rB hF z z hC5
   exact A5<|AN<|Am<|AL<|Ae z z<|AW z z z<|Af z z<|Aa<|nS<|⟨k1,Aw _,w64 (x1+1),z,((((Ao hB2).then hB3).then hB5).then hB6).below,hC5,hL1⟩
  refine Bi (A2 (A2 (AM ?_)))
  have hC6:=hC2.h0
  exact nS<|⟨Ab hL1,z,(Ao hB2).below,hC6⟩
 rintro _ w7 ⟨rfl,rfl,hB7,hC7⟩
 try dsimp only at hF
 exact Ac<|Af z z<|Aa<|AF<|rB hF z z hC7
theorem c_S_l2One {w0:World} (a1:Int) (a2:Ta) (u1:Value) (g1:RO [] w0 u1 a2) (rr:Tb) (hF:S.l2One a1 a2=some rr) :
 Calls Tryz.prog 105 [(I a1),u1].toArray w0 fun e w'=>∃v,e=.returned v∧Res w0 rr v w':=by
 refine Av Tryz.func105 z z ?_
 have hC0:=A3 w0
 unfold S.l2One at hF
 refine Ac<|Bq hC0 zero77 z z fun b1 w1 hC1 hB1 hN1=>Aa<|Ac<|Ae z z<|Ar (vs:=[]) hC1 Ag ty3 z z z z (by simp) z z fun b2 w2 hC2 hB2=>?_
 have hC5:=hC2.rowE (α:=Int)
 refine Ae z z<|be hF fun x1 hx1 hF=>AS (α:=Int) hC5 0 z g1 hC5.keep Ag ty3 z hx1 z z z fun v1 w3 hC6=>?_
 try dsimp only [List.set] at hC6
 refine B4 (vs:=[(0,(I a1)),(1,v1)]) z z z (built77_0_1 z (ro_cells (hC6.ro 0 z)))<|AE (cs':=[(I a1),v1]) (new:=[(I a1),v1]) hC6 1 z z (fac z<|fac (Br (hC6.ro 0 z))<|fa0) z Bb z z fun w4 hC7 hKp1=>?_
 try dsimp only [List.set] at hC7
 refine Aa (AF ?_)
 obtain rfl:=Ab hF
 refine BY z (rv_cell_agg (cs':=[(I a1),v1]) hC7 (i:=1) z z z Bw Bb z) ?_
 have hC8:=Cc a1 v1 x1 hC7
 exact ⟨_,z,CJ hC8 0 z⟩
theorem c_S_AddFact {w0:World} (a1:Tc) (u1:Value) (g1:RO [] w0 u1 a1) (a2:Tb) (u2:Value) (g2:RO [] w0 u2 a2.2) (rr:Tc) (hF:S.AddFact a1 a2=some rr) :
 Calls Tryz.prog 59 [u1,(.agg #[(I a2.1),u2])].toArray w0 fun e w'=>∃v,e=.returned v∧Res w0 rr v w':=by
 refine Av Tryz.func59 z z ?_
 have hC0:=A3 w0
 unfold S.AddFact at hF
 refine Ac<|Be (cs:=[(I a2.1),u2]) hC0 z z z fun b1 w1 hC1 hB1 hN1=>Af z z<|Aa<|Ac<|Ar (vs:=[]) hC1 Ak ty77 z z z z (by simp) z z fun b2 w2 hC2 hB2=>?_
 have hC5:=hC2.rowE (α:=Tb)
 refine Af z z<|Aa<|Ac<|Ae z z<|Az [(I a2.1),u2] hC5 1 z z z Bw Bb z z<|be hF fun x1 hr1 hF=>cb CK z z (c_S_HasFact a1 u1 (g1.now hC5.keep) (a2.1,a2.2) u2 (g2.now hC5.keep) x1 hr1) fun w3 hB3=>have hC6:=hC5.grow hB3;Af z z<|Aa<|A0<|Ac<|Af z z<|Aa<|be hF fun r1 hr2 hF=>wN (fun l w=>∃v2:Value,∃x5:Tc,∃x6:Bool,(x5,x6)=r1∧l=[(3,(ptr b1 0)),(5,v2),(6,(.bool x6))]∧Ctx [] w0 w [Ad v2 x5,Ah b1 [(I a2.1),u2]]) ?_ ?_
 ·refine A4<|wT<|Bj (fun k l w=>∃v1:Value,∃x2:Tc,∃x3:Bool,∃x4:Int,l=[(0,u1),(3,(ptr b1 0)),(5,v1),(6,(.bool x3)),(7,(I x4))]∧Ctx [] w0 w [Ad v1 x2,Ah b1 [(I a2.1),u2]]∧S.AddFact_l1 a1 a2 k x2 x3 x4=some r1) FUEL ⟨(.slice (some ⟨b2,0,none⟩) 0 0),([]:List Tb),x1,0,z,hC6,hr2⟩<|?_
  clear hr2
  rintro k1 _ w4 ⟨v1,x2,x3,x4,rfl,hC7,hL1⟩
  obtain _|k1:=k1<;>rw [S.AddFact_l1] at hL1
  ·cases hL1
  refine A0<|Ac<|Ae z z<|Ae z z<|AH Ak g1 z z<|AZ z z z<|Aa<|wc hL1 z (fun hL1=>?_) fun hL1=>?_
  ·refine A5<|Am<|A0<|A4<|A0<|be hL1 fun r2 hr3 hL1=>B9 (fun l w=>∃x7:Bool,x7=r2∧l=[(0,u1),(3,(ptr b1 0)),(5,v1),(6,(.bool x3)),(7,(I x4)),(28,(.bool x7))]∧Below w4.heap.size w4 w∧Ctx [] w0 w [Ad v1 x2,Ah b1 [(I a2.1),u2]]) ?_ ?_
   ·refine W_drawn 11 z hmix fun w6 hB6=>have hC9:=hC7.grow hB6;tm 0 z z z<|tk 1 z z (Cw z)<|Bv z z<|Aa<|tm 2 z z z<|BJ (fun hc2=>?_) (fun hc2=>?_)
    ·replace hr3:=Cm hr3 hc2
     refine tn 4 z z z z z<|tn 5 z z z z z<|be hr3 fun x8 hx1 hr3=>tg 6 z z z z (B5 Ak ty77 g1 hx1 z z)<|Ai z z<|A9 Ak ty77 g1 hx1 z z z fun b3 o1 h1=>Aa<|wAS (l':=[(0,u1),(3,(ptr b1 0)),(5,v1),(6,(.bool x3)),(7,(I x4)),(12,(I x4)),(13,u1),(14,(I (List.length a1:Int))),(15,(.bool (decide (x4 < (List.length a1:Int))))),(18,(.bool x3)),(19,(.bool (!x3))),(20,(.bool true)),(22,u1),(23,(I x4)),(24,(ptr b3 o1))]) ⟨z,z,z,z,z,z,z,z,z,z,z,z,z,z,z,A6⟩<|Bg [⟨3,[],fun vs=>AQ (.agg #[(I a2.1),u2]),[]⟩,⟨7,[],fun vs=>Cj [] w0 x8,[]⟩] [[],[]] 3 z (by kernel_rfl) (by kernel_rfl) z ?_ ?_
     ·refine An z ?_ ?_
      ·intro w7 hB7
       refine At<|⟨_,z,?_⟩
       exact Ai z z<|Az [(I a2.1),u2] (hC9.grow hB7) 1 z z z Bw Bb z z<|Aa<|A1 (Aj _ _) z z ⟨z,z⟩
      refine An z ?_ ?_
      ·intro w7 hB7
       refine At<|⟨_,z,?_⟩
       exact Ai z z<|AD ty77 h1 (hC9.keep.then hB7) z z fun v5 h4=>Aa<|A1 (Aj _ _) z z ⟨z,h4⟩
      exact AX
     intro w9 hB8
     refine Ap z z z ?_
     rintro _ _ ⟨rfl,rfl⟩
     refine Ap z z z ?_
     rintro v5 _ ⟨rfl,h4⟩
     obtain ⟨v4,rfl,h3⟩:=BE h4
     exact Bm fun hn1 hb1=>have hC10:=hC9.grow hB8;be hr3 fun x9 hr4 hr3=>oe 8 z<|Ai z z<|ci CX z z (c_S_CompareFacts (a2.1,a2.2) u2 (g2.now hC10.keep) x8 v4 (h3.now hC10.keep) x9 hr4) fun w10 hB9=>have hC11:=hC10.grow hB9;Aa<|tg 9 z z z z (fl_lss z z)<|Ai z z<|AZ z z z<|Aa<|tp 10 z z z z<|dn<|nS<|⟨(decide (x9 < 0)),Ab hr3,z,(((Ao hB6).then hB8).then hB9).below,hC11⟩
    replace hr3:=Cn hr3 hc2
    exact sk 3 z z z z z<|sk 4 z z z z z<|sk 5 z z z z z<|sk 6 z z z z z<|sk 7 z z z z z<|sk 8 z z z z z<|sk 9 z z z z z<|tq 10 z z z z<|dn<|nS<|⟨false,Ab hr3,z,(Ao hB6).below,hC9⟩
   rintro _ w5 ⟨x7,rfl,rfl,hB5,hC8⟩
   refine be hL1 fun r3 hr5 hL1=>wN (fun l w=>∃v6:Value,∃x10:Tc,∃x11:Bool,(x10,x11)=r3∧l=[(0,u1),(3,(ptr b1 0)),(5,v6),(6,(.bool x11)),(7,(I x4))]∧Ctx [] w0 w [Ad v6 x10,Ah b1 [(I a2.1),u2]]) ?_ ?_
   ·refine wc hr5 z (fun hr5=>?_) fun hr5=>?_
    ·refine Ac<|Ae z z<|fd AB A7 z z z z<|Al hC8 1 z z AU z z<|fd AB Aq z z z z<|Al hC8 1 z z Au z z<|be hr5 fun x12 hr6 hr5=>AA C9 z z (c_S_l2One a2.1 a2.2 u2 (g2.now hC8.keep) x12 hr6)<|?_
     rintro v7 w12 ⟨hB11,F1,hv3,hn2,hb2⟩
     have hC13:=hC8.push hB11 (A:=Ad v7 x12) hv3 hn2 hb2
     obtain ⟨v8,rfl,hC14⟩:=st77_own hC13
     refine Ar (vs:=[(.agg #[(I x12.1),v8])]) hC14 Ak ty77 z z z z (fac z<|fa0) z z (fun b4 w13 hC15 hB12=>?_)
     have hC16:=hC15.row0 (α:=Tb)
     have hC18:=hC16.f2
     have hC17:=Cc x12.1 v8 x12.2 hC18
     have hC19:=hC17.row1
     have hC20:=hC19.front 1 z
     dsimp only [List.eraseIdx,List.cons_append,List.nil_append,List.append_nil] at hC20
     have hC21:Ctx [] w0 w13 (Ad (.slice (some ⟨b4,0,none⟩) 1 1) ([(x12.1,x12.2)]:List Tb)::[Ad v1 x2,Ah b1 [(I a2.1),u2]]):=hC20.rowOwn (by simp [maxLen])
     refine be hr5 fun x13 hx2 hr5=>Bf hC21 0 z Ak ty77 z hx2 z z z fun v9 w14 hC22=>?_
     try dsimp only [List.set] at hC22
     exact Af z z<|Aa<|AL<|Af z z<|Aa<|nS<|⟨v9,x13,true,Ab hr5,z,hC22⟩
    exact A5<|nS<|⟨v1,x2,x3,Ab hr5,z,hC8⟩
   rintro _ w11 ⟨v6,x10,x11,rfl,rfl,hC12⟩
   try dsimp only at hL1
   refine W_drawn 15 z hmix fun w15 hB13=>have hC24:=hC12.grow hB13;tm 0 z z z<|tm 1 z z z<|tm 2 z z z<|be hL1 fun x14 hx3 hL1=>tk 3 z z (B5 Ak ty77 g1 hx3 z z)<|A9 Ak ty77 g1 hx3 z z z fun b5 o2 h5=>Aa<|tf 4 AB A7 z z z z z<|tm 6 z z z<|tm 7 z z z<|be hL1 fun x15 hx4 hL1=>tk 8 z z (B5 Ak ty77 g1 hx4 z z)<|A9 Ak ty77 g1 hx4 z z z fun b6 o3 h6=>Aa<|tf 9 AB Aq z z z z z<|wAS (l':=[(0,u1),(3,(ptr b1 0)),(5,v6),(6,(.bool x11)),(7,(I x4)),(37,v6),(38,u1),(39,(I x4)),(40,(ptr b5 o2)),(41,(ptr b5 (o2+0))),(43,u1),(44,(I x4)),(45,(ptr b6 o3)),(46,(ptr b6 (o3+1)))]) ⟨z,z,z,z,z,z,z,z,z,z,z,z,z,z,A6⟩<|Bg [⟨5,[],fun vs=>AQ (I x14.1),[]⟩,⟨10,[],fun vs=>Cj [] w0 x15.2,[]⟩] [[],[]] 4 z (by kernel_rfl) (by kernel_rfl) z ?_ ?_
   ·refine An z ?_ ?_
    ·intro w16 hB14
     refine At<|⟨_,z,?_⟩
     refine AD ty3 h5.fst (hC24.keep.then hB14) z z (fun v10 h7=>?_)
     obtain rfl:=Bo h7
     exact Aa<|A1 (Aj _ _) z z ⟨z,z⟩
    refine An z ?_ ?_
    ·intro w16 hB14
     refine At<|⟨_,z,?_⟩
     exact AD ty24 h6.snd (hC24.keep.then hB14) z z fun v11 h8=>Aa<|A1 (Aj _ _) z z ⟨z,h8⟩
    exact AX
   intro w17 hB15
   refine Ap z z z ?_
   rintro _ _ ⟨rfl,rfl⟩
   refine Ap z z z ?_
   rintro v11 _ ⟨rfl,h8⟩
   refine Bm fun hn3 hb3=>have hC25:=hC24.grow hB15;be hL1 fun x16 hr7 hL1=>oe 11 z<|AA C9 z z (c_S_l2One x14.1 x15.2 v11 (h8.now hC25.keep) x16 hr7)<|?_
   rintro v12 w18 ⟨hB16,F2,hv4,hn4,hb4⟩
   have hC26:=hC25.push hB16 (A:=Ad v12 x16) hv4 hn4 hb4
   obtain ⟨v13,rfl,hC27⟩:=st77_own hC26
   refine Aa<|oe 12 z<|Ar (vs:=[(.agg #[(I x16.1),v13])]) hC27 Ak ty77 z z z z (fac z<|fa0) z z fun b7 w19 hC28 hB17=>?_
   have hC29:=hC28.row0 (α:=Tb)
   have hC31:=hC29.f2
   have hC30:=Cc x16.1 v13 x16.2 hC31
   have hC32:=hC30.row1
   have hC33:=hC32.front 1 z
   dsimp only [List.eraseIdx,List.cons_append,List.nil_append,List.append_nil] at hC33
   have hC34:Ctx [] w0 w19 (Ad (.slice (some ⟨b7,0,none⟩) 1 1) ([(x16.1,x16.2)]:List Tb)::[Ad v6 x10,Ah b1 [(I a2.1),u2]]):=hC33.rowOwn (by simp [maxLen])
   refine Aa<|be hL1 fun x17 hx5 hL1=>oe 13 z<|Bf hC34 0 z Ak ty77 z hx5 z z z fun v14 w20 hC35=>?_
   try dsimp only [List.set] at hC35
   exact Aa<|ta 14 z z z<|dn<|AN<|Am<|AL<|Ae z z<|AW z z z<|Af z z<|Aa<|nS<|⟨k1,Aw _,v14,x17,x11,w64 (x4+1),z,hC35,hL1⟩
  refine Bi (A2 (A2 (AM ?_)))
  exact nS<|⟨v1,x2,x3,Ab hL1,z,hC7⟩
 rintro _ w21 ⟨v2,x5,x6,rfl,rfl,hC37⟩
 try dsimp only at hF
 refine A0<|Ac<|Ae z z<|Bv z z<|Aa<|be hF fun r4 hr8 hF=>wN (fun l w=>∃v15:Value,∃x18:Tc,x18=r4∧l=[(5,v15)]∧Ctx [] w0 w [Ad v15 x18]) ?_ ?_
 ·refine wc hr8 z (fun hr8=>?_) fun hr8=>?_
  ·refine AL<|Ae z z<|fd AB A7 z z z z<|Al hC37 1 z z AU z z<|fd AB Aq z z z z<|Al hC37 1 z z Au z z<|be hr8 fun x19 hr9 hr8=>AA C9 z z (c_S_l2One a2.1 a2.2 u2 (g2.now hC37.keep) x19 hr9)<|?_
   rintro v16 w23 ⟨hB20,F3,hv5,hn5,hb5⟩
   have hC39:=hC37.push hB20 (A:=Ad v16 x19) hv5 hn5 hb5
   obtain ⟨v17,rfl,hC40⟩:=st77_own hC39
   refine Ar (vs:=[(.agg #[(I x19.1),v17])]) hC40 Ak ty77 z z z z (fac z<|fa0) z z (fun b8 w24 hC41 hB21=>?_)
   have hC42:=hC41.row0 (α:=Tb)
   have hC44:=hC42.f2
   have hC43:=Cc x19.1 v17 x19.2 hC44
   have hC45:=hC43.row1
   have hC46:=hC45.front 1 z
   dsimp only [List.eraseIdx,List.cons_append,List.nil_append,List.append_nil] at hC46
   have hC47:Ctx [] w0 w24 (Ad (.slice (some ⟨b8,0,none⟩) 1 1) ([(x19.1,x19.2)]:List Tb)::[Ad v2 x5,Ah b1 [(I a2.1),u2]]):=hC46.rowOwn (by simp [maxLen])
   refine be hr8 fun x20 hx6 hr8=>Bf hC47 0 z Ak ty77 z hx6 z z z fun v18 w25 hC48=>?_
   try dsimp only [List.set] at hC48
   refine Af z z<|Aa<|?_
   have hC50:=hC48.h1
   exact nS<|⟨v18,x20,Ab hr8,z,hC50⟩
  refine A5 ?_
  have hC51:=hC37.h1
  exact nS<|⟨v2,x5,Ab hr8,z,hC51⟩
 rintro _ w22 ⟨v15,x18,rfl,rfl,hC38⟩
 exact Ac<|Ae z z<|Af z z<|Aa<|AF<|rO hF z z hC38 0 z
theorem c_S_l2Fact {w0:World} {Fs:List Tn} (pb1:Nat) (a1:Ti) (u1:Value) (g1:RO Fs.flatten w0 u1 a1.1) (a2:Ta) (u2:Value) (g2:RO Fs.flatten w0 u2 a2) (a3:Int) (hH:Hold [Ah pb1 [u1,(I a1.2.1),(I a1.2.2)]] w0 Fs) (hn:Fs.flatten.Nodup) (rr:Tp) (hF:S.l2Fact a1 a2 a3=some rr) :
 Calls Tryz.prog 204 [(ptr pb1 0),u2,(I a3)].toArray w0 fun e w'=>∃v,e=.returned v∧∃q0:Value,v=q0∧Ctx Fs.flatten w0 w' [Ad q0 (rr.1:Tb),Ah pb1 [u1,(I rr.2.2.1),(I rr.2.2.2)]]:=by
 refine Av Tryz.func204 z z ?_
 have hC0:=B7 hH hn
 unfold S.l2Fact at hF
 refine Ac<|Bq hC0 zero77 z z fun b1 w1 hC1 hB1 hN1=>Aa<|Ac<|Ae z z<|Ae z z<|AH Ag g2 z z<|be hF fun x1 hr1 hF=>have hC2:=hC1.f1;?_
 obtain ⟨Fs1,hH1,hn1,hF1,hO1,hb1⟩:=hC2.lA
 refine AA Bp z z (c_S_l1Below pb1 (a1.1,a1.2.1,a1.2.2) u1 (Bd g1 hC2.keep hF1) (List.length a2:Int) hH1 hn1 x1 hr1) ?_
 rintro _ w2 ⟨rfl,hq1⟩
 have hC3:=hb1 _ _ hq1
 refine B4 (vs:=[(0,(I x1.1))]) z z z (built77_0 z)<|Bq hC3 zero77 z z fun b2 w3 hC4 hB2 hN2=>AE (cs':=[(I x1.1),(.slice none 0 0)]) (new:=[(I x1.1),(.slice none 0 0)]) hC4 0 z z (fac z<|fac z<|fa0) z Bb z z fun w4 hC5 hKp1=>?_
 try dsimp only [List.set] at hC5
 have hk1:=AV (Ao hB2) hN2 hKp1
 refine Aa<|A0<|Ac<|Af z z<|Aa<|be hF fun r1 hr2 hF=>wN (fun l w=>∃x7:Int,∃v2:Value,∃x8:Ta,∃x9:Int,∃x10:Int,(x7,x8,x9,x10)=r1∧l=[(6,(ptr b1 0)),(7,(ptr b2 0))]∧Ctx Fs.flatten w0 w [Ad v2 x8,Ah b2 [(I x7),v2],Ah pb1 [u1,(I x9),(I x10)],Ah b1 [(I 0),(.slice none 0 0)]]) ?_ ?_
 ·refine A4 ?_
  have hC22:=hC5.triv (nil_val (α:=Int))
  refine wT<|Bj (fun k l w=>∃x2:Int,∃v1:Value,∃x3:Ta,∃x4:Int,∃x5:Int,∃x6:Int,l=[(0,(ptr pb1 0)),(1,u2),(2,(I a3)),(6,(ptr b1 0)),(7,(ptr b2 0)),(8,(I x6))]∧Ctx Fs.flatten w0 w [Ad v1 x3,Ah b2 [(I x2),v1],Ah pb1 [u1,(I x4),(I x5)],Ah b1 [(I 0),(.slice none 0 0)]]∧S.l2Fact_l1 a2 a1 a3 k x2 x3 x4 x5 x6=some r1) FUEL ⟨x1.1,(.slice none 0 0),[],x1.2.2.1,x1.2.2.2,0,z,hC22,hr2⟩<|?_
  clear hr2
  rintro k1 _ w5 ⟨x2,v1,x3,x4,x5,x6,rfl,hC6,hL1⟩
  obtain _|k1:=k1<;>rw [S.l2Fact_l1] at hL1
  ·cases hL1
  refine A0<|Ac<|Ae z z<|Ae z z<|fd AB A7 z z z z<|Al hC6 1 z z AU z z<|be hL1 fun x11 hx1 hL1=>A9 Ag ty3 g2 hx1 z z z fun b3 o1 h1=>AD ty3 h1 hC6.keep z z fun v3 h2=>?_
  obtain rfl:=Bo h2
  refine AZ z z z<|Aa<|wc hL1 z (fun hL1=>?_) fun hL1=>?_
  ·refine A5<|Am<|A0<|A4<|Ac<|Ae z z<|Ae z z<|be hL1 fun x12 hr3 hL1=>have hC7:=hC6.f2;?_
   obtain ⟨Fs2,hH2,hn2,hF2,hO2,hb2⟩:=hC7.lA
   refine AA Bp z z (c_S_l1Below pb1 (a1.1,x4,x5) u1 (Bd g1 hC7.keep hF2) a3 hH2 hn2 x12 hr3) ?_
   rintro _ w6 ⟨rfl,hq2⟩
   have hC8:=hb2 _ _ hq2
   refine Af z z<|Aa<|AL<|fd AB Aq z z z z<|Al hC8 2 z z Au z z<|Ae z z<|Ar (vs:=[(I x12.1)]) hC8 Ag ty3 z z z z (fac z<|fa0) z z fun b4 w7 hC9 hB4=>?_
   have hC14:=hC9.row1i
   refine be hL1 fun x13 hx2 hL1=>AS (α:=Int) hC14 2 z (hC14.ro 0 z) (Ay _ _) Ag ty3 z hx2 z z z fun v4 w9 hC15=>?_
   try dsimp only [List.set] at hC15
   refine fd AB Aq z z z z<|B2 (cs':=[(I x2),v4]) hC15 3 z z (Br (hC15.ro 2 z)) z Aq z z fun w10 hC16 hKp2=>?_
   try dsimp only [List.set] at hC16
   exact Aa<|AN<|Am<|AL<|Ae z z<|AW z z z<|Af z z<|Aa<|have hC17:=hC16.f4;have hC18:=hC17.f2;have hC19:=hC18.f4;have hC20:=hC19.f4;have hC21:=hC20.h4;nS<|⟨k1,Aw _,x2,v4,x13,x12.2.2.1,x12.2.2.2,w64 (x6+1),z,hC21,hL1⟩
  refine Bi (A2 (A2 (AM ?_)))
  exact nS<|⟨x2,v1,x3,x4,x5,Ab hL1,z,hC6⟩
 rintro _ w11 ⟨x7,v2,x8,x9,x10,rfl,rfl,hC23⟩
 try dsimp only at hF
 refine Ac<|Az [(I x7),v2] hC23 1 z z z Bw Bb z z<|AE (cs':=[(I x7),v2]) (new:=[(I x7),v2]) hC23 3 z z (fac z<|fac (Br (hC23.ro 0 z))<|fa0) z Bb z z fun w12 hC24 hKp3=>?_
 try dsimp only [List.set] at hC24
 refine Aa (AF ?_)
 obtain rfl:=Ab hF
 refine BY z (rv_cell_agg (cs':=[(I x7),v2]) hC24 (i:=3) z z z Bw Bb z)<|have hC25:=hC24.f2;have hC27:=hC25.f1;?_
 have hC26:=Cc x7 v2 x8 hC27
 have hC28:=hC26.h2
 exact ⟨_,z,_,z,hC28⟩
theorem c_S_l2Facts {w0:World} {Fs:List Tn} (pb1:Nat) (a1:Ti) (u1:Value) (g1:RO Fs.flatten w0 u1 a1.1) (a2:Ta) (u2:Value) (g2:RO Fs.flatten w0 u2 a2) (a3:Int) (hH:Hold [Ah pb1 [u1,(I a1.2.1),(I a1.2.2)]] w0 Fs) (hn:Fs.flatten.Nodup) (rr:Tr) (hF:S.l2Facts a1 a2 a3=some rr) :
 Calls Tryz.prog 164 [(ptr pb1 0),u2,(I a3)].toArray w0 fun e w'=>∃v,e=.returned v∧∃q0:Value,v=q0∧Ctx Fs.flatten w0 w' [Ad q0 (rr.1:Tc),Ah pb1 [u1,(I rr.2.2.1),(I rr.2.2.2)]]:=by
 refine Av Tryz.func164 z z ?_
 have hC0:=B7 hH hn
 unfold S.l2Facts at hF
 refine Ac<|Af z z<|Aa<|Ac<|Ar (vs:=[]) hC0 Ak ty77 z z z z (by simp) z z fun b1 w1 hC1 hB1=>?_
 have hC4:=hC1.rowE (α:=Tb)
 refine Af z z<|Aa<|A0<|Ac<|Ae z z<|Ae z z<|AW z z z<|be hF fun x1 hr1 hF=>have hC5:=hC4.f1;?_
 obtain ⟨Fs1,hH1,hn1,hF1,hO1,hb1⟩:=hC5.lA
 refine AA Bp z z (c_S_l1Below pb1 (a1.1,a1.2.1,a1.2.2) u1 (Bd g1 hC5.keep hF1) (w64 (a3+1)) hH1 hn1 x1 hr1) ?_
 rintro _ w2 ⟨rfl,hq1⟩
 have hC6:=hb1 _ _ hq1
 refine Af z z<|Aa<|be hF fun r1 hr2 hF=>wN (fun l w=>∃x6:Int,∃x7:Int,∃v2:Value,∃x8:Tc,(x6,x7,x8)=r1∧l=[(7,v2)]∧Ctx Fs.flatten w0 w [Ah pb1 [u1,(I x6),(I x7)],Ad v2 x8]) ?_ ?_
 ·refine A4<|wT<|Bj (fun k l w=>∃x2:Int,∃x3:Int,∃v1:Value,∃x4:Tc,∃x5:Int,l=[(0,(ptr pb1 0)),(1,u2),(7,v1),(8,(I x5))]∧Ctx Fs.flatten w0 w [Ah pb1 [u1,(I x2),(I x3)],Ad v1 x4]∧S.l2Facts_l1 a1 a2 k x2 x3 x4 x5=some r1) FUEL ⟨x1.2.2.1,x1.2.2.2,(.slice (some ⟨b1,0,none⟩) 0 0),([]:List Tb),x1.1,z,hC6,hr2⟩<|?_
  clear hr2
  rintro k1 _ w3 ⟨x2,x3,v1,x4,x5,rfl,hC7,hL1⟩
  obtain _|k1:=k1<;>rw [S.l2Facts_l1] at hL1
  ·cases hL1
  refine A0<|Ac<|Ae z z<|Ck z z z<|Aa<|wc hL1 z (fun hL1=>?_) fun hL1=>?_
  ·refine A5<|Am<|A0<|A4<|AL<|Ae z z<|Ae z z<|Ae z z<|be hL1 fun x9 hr3 hL1=>?_
   obtain ⟨Fs2,hH2,hn2,hF2,hO2,hb2⟩:=hC7.lB
   refine AA Tryz.call204 z z (c_S_l2Fact pb1 (a1.1,x2,x3) u1 (Bd g1 hC7.keep hF2) a2 u2 (Bd g2 hC7.keep hF2) 4 hH2 hn2 x9 hr3) ?_
   rintro v3 w4 ⟨_,rfl,hq2⟩
   have hC8:=hb2 _ _ _ hq2
   obtain ⟨v4,rfl,hC9⟩:=st77_own hC8
   refine be hL1 fun x10 hr4 hL1=>AA Tryz.call59 z z (c_S_AddFact x4 v1 ((hC9.ro 2 z).now (Ay _ _)) x9.1 v4 ((hC9.ro 0 z).now (Ay _ _)) x10 hr4)<|?_
   rintro v5 w5 ⟨hB3,F1,hv1,hn3,hb3⟩
   have hC10:=hC9.push hB3 (A:=Ad v5 x10) hv1 hn3 hb3
   exact Af z z<|Aa<|AN<|Am<|AL<|Ae z z<|Cb z z z<|Af z z<|Aa<|have hC11:=hC10.f2;have hC12:=hC11.h2;nS<|⟨k1,Aw _,x9.2.2.1,x9.2.2.2,v5,x10,w64 (x5 - 1),z,hC12,hL1⟩
  refine Bi (A2 (A2 (AM ?_)))
  exact nS<|⟨x2,x3,v1,x4,Ab hL1,z,hC7⟩
 rintro _ w6 ⟨x6,x7,v2,x8,rfl,rfl,hC13⟩
 try dsimp only at hF
 refine Ac<|Ae z z<|Af z z<|Aa<|AF<|?_
 obtain rfl:=Ab hF
 exact BI z z<|have hC14:=hC13.f1;⟨_,z,_,z,hC14⟩
theorem c_S_l1PickInt {w0:World} {Fs:List Tn} (pb1:Nat) (a1:Ti) (u1:Value) (g1:RO Fs.flatten w0 u1 a1.1) (a2:Ta) (u2:Value) (g2:RO Fs.flatten w0 u2 a2) (hH:Hold [Ah pb1 [u1,(I a1.2.1),(I a1.2.2)]] w0 Fs) (hn:Fs.flatten.Nodup) (rr:Ts) (hF:S.l1PickInt a1 a2=some rr) :
 Calls Tryz.prog 169 [(ptr pb1 0),u2].toArray w0 fun e w'=>∃v,e=.returned v∧v=(I rr.1)∧Ctx Fs.flatten w0 w' [Ah pb1 [u1,(I rr.2.2.1),(I rr.2.2.2)]]:=by
 refine Av Tryz.func169 z z ?_
 have hC0:=B7 hH hn
 unfold S.l1PickInt at hF
 refine Ac<|Af z z<|Aa<|Ac<|Ae z z<|Ae z z<|Ae z z<|AH Ag g2 z z<|be hF fun x1 hr1 hF=>?_
 obtain ⟨Fs1,hH1,hn1,hF1,hO1,hb1⟩:=hC0.lA
 refine AA Bp z z (c_S_l1Below pb1 (a1.1,a1.2.1,a1.2.2) u1 (Bd g1 hC0.keep hF1) (List.length a2:Int) hH1 hn1 x1 hr1) ?_
 rintro _ w1 ⟨rfl,hq1⟩
 have hC1:=hb1 _ _ hq1
 refine be hF fun x2 hx1 hF=>A9 Ag ty3 g2 hx1 z z z fun b1 o1 h1=>AD ty3 h1 hC1.keep z z fun v1 h2=>?_
 obtain rfl:=Bo h2
 refine Af z z<|Aa<|AF<|?_
 obtain rfl:=Ab hF
 exact BI z z<|⟨_,z,z,hC1⟩
theorem c_S_l2AnyFact {w0:World} {Fs:List Tn} (pb1:Nat) (a1:Ti) (u1:Value) (g1:RO Fs.flatten w0 u1 a1.1) (a2:Ta) (u2:Value) (g2:RO Fs.flatten w0 u2 a2) (hH:Hold [Ah pb1 [u1,(I a1.2.1),(I a1.2.2)]] w0 Fs) (hn:Fs.flatten.Nodup) (rr:Tp) (hF:S.l2AnyFact a1 a2=some rr) :
 Calls Tryz.prog 170 [(ptr pb1 0),u2].toArray w0 fun e w'=>∃v,e=.returned v∧∃q0:Value,v=q0∧Ctx Fs.flatten w0 w' [Ad q0 (rr.1:Tb),Ah pb1 [u1,(I rr.2.2.1),(I rr.2.2.2)]]:=by
 refine Av Tryz.func170 z z ?_
 have hC0:=B7 hH hn
 unfold S.l2AnyFact at hF
 refine Ac<|Bq hC0 zero77 z z fun b1 w1 hC1 hB1 hN1=>Aa<|Ac<|Ar (vs:=[(I 1)]) hC1 Ag ty3 z z z z (fac z<|fa0) z z fun b2 w2 hC2 hB2=>?_
 have hC7:=hC2.row1i
 refine B4 (vs:=[(1,(.slice (some ⟨b2,0,none⟩) 1 1))]) z z z (built77_1 (ro_cells (hC7.ro 0 z)))<|Bq hC7 zero77 z z fun b3 w3 hC8 hB3 hN2=>AE (cs':=[(I 0),(.slice (some ⟨b2,0,none⟩) 1 1)]) (new:=[(I 0),(.slice (some ⟨b2,0,none⟩) 1 1)]) hC8 0 z z (fac z<|fac (Br (hC8.ro 1 z))<|fa0) z Bb z z fun w4 hC9 hKp1=>?_
 try dsimp only [List.set] at hC9
 have hk1:=AV (((Ao hB1).then hB2).then hB3) (Bl ((Ao hB1).then hB2).size hN2) hKp1
 have hk2:=AV ((Ao hB2).then hB3) (Bl (Ao hB2).size hN2) hKp1
 have hk3:=AV (Ao hB3) hN2 hKp1
 refine Aa<|A0<|Ac<|Ae z z<|be hF fun x1 hr1 hF=>cb Cf z z (c_S_IsSchema a2 u2 (g2.now hC9.keep) x1 hr1) fun w5 hB4=>have hC10:=hC9.grow hB4;Aa<|be hF fun r1 hr2 hF=>wN (fun l w=>∃x2:Int,∃v1:Value,∃x3:Ta,∃x4:Int,∃x5:Int,(x2,x3,x4,x5)=r1∧l=[(0,(ptr pb1 0)),(4,(ptr b1 0)),(5,(ptr b3 0))]∧Ctx Fs.flatten w0 w [Ah b3 [(I x2),v1],Ad v1 x3,Ah b1 [(I 0),(.slice none 0 0)],Ah pb1 [u1,(I x4),(I x5)]]) ?_ ?_
 ·refine wc hr2 z (fun hr2=>?_) fun hr2=>?_
  ·refine AL<|Ae z z<|Ae z z<|be hr2 fun x6 hr3 hr2=>have hC12:=hC10.f3;?_
   obtain ⟨Fs1,hH1,hn1,hF1,hO1,hb1⟩:=hC12.lB
   refine AA Tryz.call204 z z (c_S_l2Fact pb1 (a1.1,a1.2.1,a1.2.2) u1 (Bd g1 hC12.keep hF1) a2 u2 (Bd g2 hC12.keep hF1) 10 hH1 hn1 x6 hr3) ?_
   rintro v2 w7 ⟨_,rfl,hq1⟩
   have hC13:=hb1 _ _ _ hq1
   obtain ⟨v3,rfl,hC14⟩:=st77_own hC13
   refine AE (cs':=[(I x6.1.1),v3]) (new:=[(I x6.1.1),v3]) hC14 2 z z (fac z<|fac (Br (hC14.ro 0 z))<|fa0) z Bb z z (fun w9 hC15 hKp2=>?_)
   try dsimp only [List.set] at hC15
   refine Aa ?_
   have hC20:=hC15.f1.f4.f2.f3.h4
   exact nS<|⟨x6.1.1,v3,x6.1.2,x6.2.2.1,x6.2.2.2,Ab hr2,z,hC20⟩
  exact A5<|nS<|⟨0,(.slice (some ⟨b2,0,none⟩) 1 1),[1],a1.2.1,a1.2.2,Ab hr2,z,hC10⟩
 rintro _ w6 ⟨x2,v1,x3,x4,x5,rfl,rfl,hC11⟩
 try dsimp only at hF
 refine A0<|Ac<|Ae z z<|be hF fun x7 hr4 hF=>have hC21:=hC11.f3;?_
 obtain ⟨Fs2,hH2,hn2,hF2,hO2,hb2⟩:=hC21.lA
 refine AA Bp z z (c_S_l1Below pb1 (a1.1,x4,x5) u1 (Bd g1 hC21.keep hF2) 8 hH2 hn2 x7 hr4) ?_
 rintro _ w10 ⟨rfl,hq4⟩
 have hC22:=hb2 _ _ hq4
 refine Aa<|A4<|Ac<|BD z z z<|Af z z<|Aa<|be hF fun r2 hr5 hF=>wB (fun l w=>∃x8:Int,∃x9:Int,∃x10:Int,∃v4:Value,∃x11:Ta,(x8,x9,x10,x11)=r2∧l=[(4,(ptr b1 0)),(5,(ptr b3 0))]∧Ctx Fs.flatten w0 w [Ah pb1 [u1,(I x8),(I x9)],Ah b3 [(I x10),v4],Ad v4 x11,Ah b1 [(I 0),(.slice none 0 0)]]) ?_ ?_
 ·refine wc hr5 z (fun hr5=>?_) fun hr5=>?_
  ·refine AL<|Ae z z<|be hr5 fun x12 hr6 hr5=>?_
   obtain ⟨Fs3,hH3,hn3,hF3,hO3,hb3⟩:=hC22.lA
   refine AA Bp z z (c_S_l1Below pb1 (a1.1,x7.2.2.1,x7.2.2.2) u1 (Bd g1 hC22.keep hF3) 5 hH3 hn3 x12 hr6) ?_
   rintro _ w12 ⟨rfl,hq5⟩
   have hC24:=hb3 _ _ hq5
   refine Cb z z z<|fd AB A7 z z z z<|B2 (cs':=[(I (w64 (x12.1 - 1))),v1]) hC24 1 z z z z A7 z z fun w13 hC25 hKp3=>?_
   try dsimp only [List.set] at hC25
   exact Aa<|nS<|⟨x12.2.2.1,x12.2.2.2,w64 (x12.1 - 1),v1,x3,Ab hr5,z,hC25⟩
  refine Ac<|BD z z z<|Af z z<|Aa<|be hr5 fun r3 hr7 hr5=>C7 (fun l w=>∃x13:Int,∃x14:Int,∃x15:Int,∃v5:Value,∃x16:Ta,(x13,x14,x15,x16)=r3∧l=[(4,(ptr b1 0)),(5,(ptr b3 0))]∧Ctx Fs.flatten w0 w [Ah pb1 [u1,(I x13),(I x14)],Ah b3 [(I x15),v5],Ad v5 x16,Ah b1 [(I 0),(.slice none 0 0)]]) ?_ ?_
  ·refine wc hr7 z (fun hr7=>?_) fun hr7=>?_
   ·refine be hr7 fun r4 hr8 hr7=>C7 (fun l w=>∃x17:Ta,∃x18:Int,∃x19:Int,(x17,x18,x19)=r4∧l=[(4,(ptr b1 0)),(5,(ptr b3 0))]∧Ctx Fs.flatten w0 w [Ah pb1 [u1,(I x18),(I x19)],Ah b3 [(I x2),v1],Ad v1 x17,Ah b1 [(I 0),(.slice none 0 0)]]) ?_ ?_
    ·refine W_drawn 7 z hmix fun w16 hB9=>have hC28:=hC22.grow hB9;tf 0 AB Aq z z z z z<|tm 2 z z z<|Cx (i:=1) (j:=3) (by kernel_rfl) z z ?_ ?_
     ·refine Al hC28 1 z z Au z z<|Aa<|oe 3 z<|Ar (vs:=[(I (-1)),(I 9),(I 10)]) hC28 Ag ty3 z z z z (fac z<|fac z<|fac z<|fa0) z z fun b4 w17 hC29 hB10=>?_
      have hC30:=hC29.row0 (α:=Int)
      have hC31:=hC30.triv (Bt (10))
      have hC32:=hC31.row1
      have hC33:=hC32.triv (Bt (9))
      have hC34:=hC33.row1
      have hC35:=hC34.triv (Bt ((-1)))
      have hC36:=hC35.row1
      have hC37:=hC36.front 1 z
      dsimp only [List.eraseIdx,List.cons_append,List.nil_append,List.append_nil] at hC37
      have hC38:Ctx Fs.flatten w0 w17 (Ad (.slice (some ⟨b4,0,none⟩) 3 3) ([(-1),9,10]:List Int)::[Ah pb1 [u1,(I x7.2.2.1),(I x7.2.2.2)],Ah b3 [(I x2),v1],Ad v1 x3,Ah b1 [(I 0),(.slice none 0 0)]]):=hC37.rowOwn (by simp [maxLen])
      refine Aa<|be hr8 fun x20 hr9 hr8=>oe 4 z<|have hC39:=hC38.f1;?_
      obtain ⟨Fs4,hH4,hn4,hF4,hO4,hb4⟩:=hC39.lA
      refine AA BT z z (c_S_l1PickInt pb1 (a1.1,x7.2.2.1,x7.2.2.2) u1 (Bd g1 hC39.keep hF4) ([(-1),9,10]) (.slice (some ⟨b4,0,none⟩) 3 3) (hO4 0 _ _ _ z) hH4 hn4 x20 hr9) ?_
      rintro _ w18 ⟨rfl,hq7⟩
      have hC40:=hb4 _ _ hq7
      refine Aa<|be hr8 fun x21 hx1 hr8=>tk 5 z z (fl_index_own hC40 3 z Ag ty3 hx1 z z)<|WL_index_own hC40 3 z Ag ty3 hx1 z z z fun b5 hE1=>Aa<|oe 6 z<|?_
      have hC42:=hC40.triv (Bt (x20.1))
      refine WL_store_elem hC42 3 z ty3 hE1 hx1 z z z (fun w19 hC41=>?_)
      try dsimp only [List.set] at hC41
      refine Aa<|dn<|?_
      have hC43:=hC41.f4
      have hC44:=hC43.f4
      have hC45:=hC44.f4
      have hC46:=hC45.f3
      have hC47:=hC46.h4
      exact nS<|⟨(List.set x3 (Int.toNat 0) x20.1),x20.2.2.1,x20.2.2.2,Ab hr8,z,hC47⟩
     refine Ar (vs:=[(I (-1)),(I 9),(I 10)]) hC28 Ag ty3 z z z z (fac z<|fac z<|fac z<|fa0) z z (fun b4 w17 hC29 hB10=>?_)
     have hC30:=hC29.row0 (α:=Int)
     have hC31:=hC30.triv (Bt (10))
     have hC32:=hC31.row1
     have hC33:=hC32.triv (Bt (9))
     have hC34:=hC33.row1
     have hC35:=hC34.triv (Bt ((-1)))
     have hC36:=hC35.row1
     have hC37:=hC36.front 1 z
     dsimp only [List.eraseIdx,List.cons_append,List.nil_append,List.append_nil] at hC37
     have hC38:Ctx Fs.flatten w0 w17 (Ad (.slice (some ⟨b4,0,none⟩) 3 3) ([(-1),9,10]:List Int)::[Ah pb1 [u1,(I x7.2.2.1),(I x7.2.2.2)],Ah b3 [(I x2),v1],Ad v1 x3,Ah b1 [(I 0),(.slice none 0 0)]]):=hC37.rowOwn (by simp [maxLen])
     refine Aa<|Cx (i:=1) (j:=4) (by kernel_rfl) z z ?_ ?_
     ·refine Al hC38 2 z z Au z z<|Aa<|be hr8 fun x20 hr9 hr8=>oe 4 z<|have hC39:=hC38.f1;?_
      obtain ⟨Fs4,hH4,hn4,hF4,hO4,hb4⟩:=hC39.lA
      refine AA BT z z (c_S_l1PickInt pb1 (a1.1,x7.2.2.1,x7.2.2.2) u1 (Bd g1 hC39.keep hF4) ([(-1),9,10]) (.slice (some ⟨b4,0,none⟩) 3 3) (hO4 0 _ _ _ z) hH4 hn4 x20 hr9) ?_
      rintro _ w18 ⟨rfl,hq7⟩
      have hC40:=hb4 _ _ hq7
      refine Aa<|be hr8 fun x21 hx1 hr8=>tk 5 z z (fl_index_own hC40 3 z Ag ty3 hx1 z z)<|WL_index_own hC40 3 z Ag ty3 hx1 z z z fun b5 hE1=>Aa<|oe 6 z<|?_
      have hC42:=hC40.triv (Bt (x20.1))
      refine WL_store_elem hC42 3 z ty3 hE1 hx1 z z z (fun w19 hC41=>?_)
      try dsimp only [List.set] at hC41
      refine Aa<|dn<|?_
      have hC43:=hC41.f4
      have hC44:=hC43.f4
      have hC45:=hC44.f4
      have hC46:=hC45.f3
      have hC47:=hC46.h4
      exact nS<|⟨(List.set x3 (Int.toNat 0) x20.1),x20.2.2.1,x20.2.2.2,Ab hr8,z,hC47⟩
     refine be hr8 fun x20 hr9 hr8=>have hC39:=hC38.f1;?_
     obtain ⟨Fs4,hH4,hn4,hF4,hO4,hb4⟩:=hC39.lA
     refine AA BT z z (c_S_l1PickInt pb1 (a1.1,x7.2.2.1,x7.2.2.2) u1 (Bd g1 hC39.keep hF4) ([(-1),9,10]) (.slice (some ⟨b4,0,none⟩) 3 3) (hO4 0 _ _ _ z) hH4 hn4 x20 hr9) ?_
     rintro _ w18 ⟨rfl,hq7⟩
     have hC40:=hb4 _ _ hq7
     refine Aa<|oe 1 z<|Al hC40 2 z z Au z z<|Aa<|be hr8 fun x21 hx1 hr8=>tk 5 z z (fl_index_own hC40 3 z Ag ty3 hx1 z z)<|WL_index_own hC40 3 z Ag ty3 hx1 z z z fun b5 hE1=>Aa<|oe 6 z<|?_
     have hC42:=hC40.triv (Bt (x20.1))
     refine WL_store_elem hC42 3 z ty3 hE1 hx1 z z z (fun w19 hC41=>?_)
     try dsimp only [List.set] at hC41
     refine Aa<|dn<|?_
     have hC43:=hC41.f4
     have hC44:=hC43.f4
     have hC45:=hC44.f4
     have hC46:=hC45.f3
     have hC47:=hC46.h4
     exact nS<|⟨(List.set x3 (Int.toNat 0) x20.1),x20.2.2.1,x20.2.2.2,Ab hr8,z,hC47⟩
    rintro l4 _ w15 hs4 ⟨x17,x18,x19,rfl,rfl,hC27⟩
    try dsimp only at hr7
    obtain rfl:=Ab hr7
    exact Cq (l2:=[(4,(ptr b1 0)),(5,(ptr b3 0))]) hs4 ⟨z,z,A6⟩<|⟨x18,x19,x2,v1,x17,z,z,hC27⟩
   refine Ac<|BD z z z<|Af z z<|Aa<|be hr7 fun r5 hr10 hr7=>C7 (fun l w=>∃x22:Int,∃v6:Value,∃x23:Ta,(x22,x23)=r5∧l=[(4,(ptr b1 0)),(5,(ptr b3 0))]∧Ctx Fs.flatten w0 w [Ah pb1 [u1,(I x7.2.2.1),(I x7.2.2.2)],Ah b3 [(I x22),v6],Ad v6 x23,Ah b1 [(I 0),(.slice none 0 0)]]) ?_ ?_
   ·refine wc hr10 z (fun hr10=>?_) fun hr10=>?_
    ·refine AL<|fd AB Aq z z z z<|Al hC22 1 z z Au z z<|Ar (vs:=[(I 1)]) hC22 Ag ty3 z z z z (fac z<|fa0) z z fun b6 w21 hC49 hB12=>?_
     have hC54:=hC49.row1i
     refine be hr10 fun x24 hx2 hr10=>AS (α:=Int) hC54 3 z (hC54.ro 0 z) (Ay _ _) Ag ty3 z hx2 z z z fun v7 w22 hC55=>?_
     try dsimp only [List.set] at hC55
     refine fd AB Aq z z z z<|B2 (cs':=[(I x2),v7]) hC55 2 z z (Br (hC55.ro 3 z)) z Aq z z fun w23 hC56 hKp5=>?_
     try dsimp only [List.set] at hC56
     refine Aa ?_
     have hC61:=hC56.f4.f4.f4.f4.h4
     exact nS<|⟨x2,v7,x24,Ab hr10,z,hC61⟩
    exact A5<|nS<|⟨x2,v1,x3,Ab hr10,z,hC22⟩
   rintro l5 _ w20 hs5 ⟨x22,v6,x23,rfl,rfl,hC48⟩
   try dsimp only at hr7
   obtain rfl:=Ab hr7
   exact Cq (l2:=[(4,(ptr b1 0)),(5,(ptr b3 0))]) hs5 ⟨z,z,A6⟩<|⟨x7.2.2.1,x7.2.2.2,x22,v6,x23,z,z,hC48⟩
  rintro l3 _ w14 hs3 ⟨x13,x14,x15,v5,x16,rfl,rfl,hC26⟩
  try dsimp only at hr5
  obtain rfl:=Ab hr5
  exact Cq (l2:=[(4,(ptr b1 0)),(5,(ptr b3 0))]) hs3 ⟨z,z,A6⟩<|⟨x13,x14,x15,v5,x16,z,z,hC26⟩
 rintro _ w11 ⟨x8,x9,x10,v4,x11,rfl,rfl,hC23⟩
 try dsimp only at hF
 refine Ac<|Az [(I x10),v4] hC23 1 z z z Bw Bb z z<|AE (cs':=[(I x10),v4]) (new:=[(I x10),v4]) hC23 3 z z (fac z<|fac (Br (hC23.ro 2 z))<|fa0) z Bb z z fun w24 hC62 hKp6=>?_
 try dsimp only [List.set] at hC62
 refine Aa (AF ?_)
 obtain rfl:=Ab hF
 refine BY z (rv_cell_agg (cs':=[(I x10),v4]) hC62 (i:=3) z z z Bw Bb z)<|have hC64:=hC62.f2;?_
 have hC63:=Cc x10 v4 x11 hC64
 have hC65:=hC63.h2
 exact ⟨_,z,_,z,hC65⟩
theorem c_S_l2AnyFacts {w0:World} {Fs:List Tn} (pb1:Nat) (a1:Ti) (u1:Value) (g1:RO Fs.flatten w0 u1 a1.1) (a2:Ta) (u2:Value) (g2:RO Fs.flatten w0 u2 a2) (hH:Hold [Ah pb1 [u1,(I a1.2.1),(I a1.2.2)]] w0 Fs) (hn:Fs.flatten.Nodup) (rr:Tr) (hF:S.l2AnyFacts a1 a2=some rr) :
 Calls Tryz.prog 116 [(ptr pb1 0),u2].toArray w0 fun e w'=>∃v,e=.returned v∧∃q0:Value,v=q0∧Ctx Fs.flatten w0 w' [Ad q0 (rr.1:Tc),Ah pb1 [u1,(I rr.2.2.1),(I rr.2.2.2)]]:=by
 refine Av Tryz.func116 z z ?_
 have hC0:=B7 hH hn
 unfold S.l2AnyFacts at hF
 refine Ac<|Af z z<|Aa<|Ac<|Ar (vs:=[]) hC0 Ak ty77 z z z z (by simp) z z fun b1 w1 hC1 hB1=>?_
 have hC4:=hC1.rowE (α:=Tb)
 refine Af z z<|Aa<|A0<|Ac<|Ae z z<|be hF fun x1 hr1 hF=>cb Cf z z (c_S_IsSchema a2 u2 (g2.now hC4.keep) x1 hr1) fun w2 hB2=>have hC5:=hC4.grow hB2;Aa<|be hF fun r1 hr2 hF=>wN (fun l w=>∃x2:Int,∃x3:Int,∃v1:Value,∃x4:Tc,(x2,x3,x4)=r1∧l=[(0,(ptr pb1 0)),(1,u2),(5,v1)]∧Ctx Fs.flatten w0 w [Ad v1 x4,Ah pb1 [u1,(I x2),(I x3)]]) ?_ ?_
 ·refine wc hr2 z (fun hr2=>?_) fun hr2=>?_
  ·refine AL<|Ae z z<|Ae z z<|be hr2 fun x5 hr3 hr2=>have hC7:=hC5.f1;?_
   obtain ⟨Fs1,hH1,hn1,hF1,hO1,hb1⟩:=hC7.lB
   refine AA Tryz.call164 z z (c_S_l2Facts pb1 (a1.1,a1.2.1,a1.2.2) u1 (Bd g1 hC7.keep hF1) a2 u2 (Bd g2 hC7.keep hF1) 8 hH1 hn1 x5 hr3) ?_
   rintro v2 w4 ⟨_,rfl,hq1⟩
   have hC8:=hb1 _ _ _ hq1
   refine Af z z<|Aa<|?_
   have hC11:=hC8.f1.f1.h2
   exact nS<|⟨x5.2.2.1,x5.2.2.2,v2,x5.1,Ab hr2,z,hC11⟩
  exact A5<|nS<|⟨a1.2.1,a1.2.2,(.slice (some ⟨b1,0,none⟩) 0 0),([]:List Tb),Ab hr2,z,hC5⟩
 rintro _ w3 ⟨x2,x3,v1,x4,rfl,rfl,hC6⟩
 try dsimp only at hF
 refine A0<|Ac<|Ae z z<|be hF fun x6 hr4 hF=>have hC12:=hC6.f1;?_
 obtain ⟨Fs2,hH2,hn2,hF2,hO2,hb2⟩:=hC12.lA
 refine AA Cp z z (c_S_l1Once pb1 (a1.1,x2,x3) u1 (Bd g1 hC12.keep hF2) 10 hH2 hn2 x6 hr4) ?_
 rintro _ w5 ⟨rfl,hq4⟩
 have hC13:=hb2 _ _ hq4
 refine Aa<|be hF fun r2 hr5 hF=>wN (fun l w=>∃x7:Int,∃x8:Int,∃v3:Value,∃x9:Tc,(x7,x8,x9)=r2∧l=[(5,v3)]∧Ctx Fs.flatten w0 w [Ah pb1 [u1,(I x7),(I x8)],Ad v3 x9]) ?_ ?_
 ·refine wc hr5 z (fun hr5=>?_) fun hr5=>?_
  ·refine AL<|Ae z z<|Ae z z<|Ae z z<|be hr5 fun x10 hr6 hr5=>?_
   obtain ⟨Fs3,hH3,hn3,hF3,hO3,hb3⟩:=hC13.lB
   refine AA Tryz.call170 z z (c_S_l2AnyFact pb1 (a1.1,x6.2.2.1,x6.2.2.2) u1 (Bd g1 hC13.keep hF3) a2 u2 (Bd g2 hC13.keep hF3) hH3 hn3 x10 hr6) ?_
   rintro v4 w7 ⟨_,rfl,hq5⟩
   have hC15:=hb3 _ _ _ hq5
   obtain ⟨v5,rfl,hC16⟩:=st77_own hC15
   refine Ar (vs:=[(.agg #[(I x10.1.1),v5])]) hC16 Ak ty77 z z z z (fac z<|fa0) z z (fun b2 w9 hC17 hB5=>?_)
   have hC18:=hC17.row0 (α:=Tb)
   have hC20:=hC18.f2
   have hC19:=Cc x10.1.1 v5 x10.1.2 hC20
   have hC21:=hC19.row1
   have hC22:=hC21.front 1 z
   dsimp only [List.eraseIdx,List.cons_append,List.nil_append,List.append_nil] at hC22
   have hC23:Ctx Fs.flatten w0 w9 (Ad (.slice (some ⟨b2,0,none⟩) 1 1) ([(x10.1.1,x10.1.2)]:List Tb)::[Ah pb1 [u1,(I x10.2.2.1),(I x10.2.2.2)],Ad v1 x4]):=hC22.rowOwn (by simp [maxLen])
   refine be hr5 fun x11 hx1 hr5=>Bf hC23 1 z Ak ty77 z hx1 z z z fun v6 w10 hC24=>?_
   try dsimp only [List.set] at hC24
   exact Af z z<|Aa<|nS<|⟨x10.2.2.1,x10.2.2.2,v6,x11,Ab hr5,z,hC24⟩
  exact A5<|nS<|⟨x6.2.2.1,x6.2.2.2,v1,x4,Ab hr5,z,hC13⟩
 rintro _ w6 ⟨x7,x8,v3,x9,rfl,rfl,hC14⟩
 try dsimp only at hF
 refine Ac<|Ae z z<|Af z z<|Aa<|AF<|?_
 obtain rfl:=Ab hF
 exact BI z z<|have hC26:=hC14.f1;⟨_,z,_,z,hC26⟩
theorem c_S_l2Schema {w0:World} {Fs:List Tn} (pb1:Nat) (a1:Ti) (u1:Value) (g1:RO Fs.flatten w0 u1 a1.1) (hH:Hold [Ah pb1 [u1,(I a1.2.1),(I a1.2.2)]] w0 Fs) (hn:Fs.flatten.Nodup) (rr:(Ta × Ti)) (hF:S.l2Schema a1=some rr) :
 Calls Tryz.prog 162 [(ptr pb1 0)].toArray w0 fun e w'=>∃v,e=.returned v∧∃q0:Value,v=q0∧Ctx Fs.flatten w0 w' [Ad q0 (rr.1:Ta),Ah pb1 [u1,(I rr.2.2.1),(I rr.2.2.2)]]:=by
 refine Av Tryz.func162 z z ?_
 have hC0:=B7 hH hn
 unfold S.l2Schema at hF
 refine Ac<|Af z z<|Aa<|Ac<|Ar (vs:=[]) hC0 Ag ty3 z z z z (by simp) z z fun b1 w1 hC1 hB1=>?_
 have hC4:=hC1.rowE (α:=Int)
 refine Af z z<|Aa<|A0<|Ac<|Ae z z<|be hF fun x1 hr1 hF=>have hC5:=hC4.f1;?_
 obtain ⟨Fs1,hH1,hn1,hF1,hO1,hb1⟩:=hC5.lA
 refine AA Bp z z (c_S_l1Below pb1 (a1.1,a1.2.1,a1.2.2) u1 (Bd g1 hC5.keep hF1) 3 hH1 hn1 x1 hr1) ?_
 rintro _ w2 ⟨rfl,hq1⟩
 have hC6:=hb1 _ _ hq1
 refine AW z z z<|Af z z<|Aa<|be hF fun r1 hr2 hF=>wN (fun l w=>∃x6:Int,∃x7:Int,∃v2:Value,∃x8:Ta,(x6,x7,x8)=r1∧l=[(3,v2)]∧Ctx Fs.flatten w0 w [Ah pb1 [u1,(I x6),(I x7)],Ad v2 x8]) ?_ ?_
 ·refine A4<|wT<|Bj (fun k l w=>∃x2:Int,∃x3:Int,∃v1:Value,∃x4:Ta,∃x5:Int,l=[(0,(ptr pb1 0)),(3,v1),(4,(I x5))]∧Ctx Fs.flatten w0 w [Ah pb1 [u1,(I x2),(I x3)],Ad v1 x4]∧S.l2Schema_l1 a1 k x2 x3 x4 x5=some r1) FUEL ⟨x1.2.2.1,x1.2.2.2,(.slice (some ⟨b1,0,none⟩) 0 0),([]:List Int),w64 (1+x1.1),z,hC6,hr2⟩<|?_
  clear hr2
  rintro k1 _ w3 ⟨x2,x3,v1,x4,x5,rfl,hC7,hL1⟩
  obtain _|k1:=k1<;>rw [S.l2Schema_l1] at hL1
  ·cases hL1
  refine A0<|Ac<|Ae z z<|Ck z z z<|Aa<|wc hL1 z (fun hL1=>?_) fun hL1=>?_
  ·refine A5<|Am<|A0<|A4<|Ac<|Ae z z<|be hL1 fun x9 hr3 hL1=>?_
   obtain ⟨Fs2,hH2,hn2,hF2,hO2,hb2⟩:=hC7.lA
   refine AA Bp z z (c_S_l1Below pb1 (a1.1,x2,x3) u1 (Bd g1 hC7.keep hF2) 2 hH2 hn2 x9 hr3) ?_
   rintro _ w4 ⟨rfl,hq2⟩
   have hC8:=hb2 _ _ hq2
   refine AW z z z<|Af z z<|Aa<|A0<|Ac<|Ae z z<|be hL1 fun x10 hr4 hL1=>?_
   obtain ⟨Fs3,hH3,hn3,hF3,hO3,hb3⟩:=hC8.lA
   refine AA Cp z z (c_S_l1Once pb1 (a1.1,x9.2.2.1,x9.2.2.2) u1 (Bd g1 hC8.keep hF3) 4 hH3 hn3 x10 hr4) ?_
   rintro _ w5 ⟨rfl,hq3⟩
   have hC9:=hb3 _ _ hq3
   refine Aa<|be hL1 fun r2 hr5 hL1=>wN (fun l w=>∃x11:Int,x11=r2∧l=[(0,(ptr pb1 0)),(3,v1),(4,(I x5)),(5,(I x11))]∧Below w5.heap.size w5 w∧Ctx Fs.flatten w0 w [Ah pb1 [u1,(I x10.2.2.1),(I x10.2.2.2)],Ad v1 x4]) ?_ ?_
   ·refine wc hr5 z (fun hr5=>?_) fun hr5=>?_
    ·exact AL<|Af z z<|Aa<|nS<|⟨3,Ab hr5,z,(Aj _ _),hC9⟩
    exact A5<|nS<|⟨w64 (1+x9.1),Ab hr5,z,(Aj _ _),hC9⟩
   rintro _ w6 ⟨x11,rfl,rfl,hB3,hC10⟩
   refine AL<|Ae z z<|Ae z z<|Ar (vs:=[(I x11)]) hC10 Ag ty3 z z z z (fac z<|fa0) z z fun b2 w7 hC11 hB4=>?_
   have hC16:=hC11.row1i
   refine be hL1 fun x12 hx1 hL1=>AS (α:=Int) hC16 2 z (hC16.ro 0 z) (Ay _ _) Ag ty3 z hx1 z z z fun v3 w9 hC17=>?_
   try dsimp only [List.set] at hC17
   exact Af z z<|Aa<|AN<|Am<|AL<|Ae z z<|Cb z z z<|Af z z<|Aa<|have hC18:=hC17.f2;have hC19:=hC18.f2;have hC20:=hC19.h2;nS<|⟨k1,Aw _,x10.2.2.1,x10.2.2.2,v3,x12,w64 (x5 - 1),z,hC20,hL1⟩
  refine Bi (A2 (A2 (AM ?_)))
  exact nS<|⟨x2,x3,v1,x4,Ab hL1,z,hC7⟩
 rintro _ w10 ⟨x6,x7,v2,x8,rfl,rfl,hC21⟩
 try dsimp only at hF
 refine Ac<|Ae z z<|Af z z<|Aa<|AF<|?_
 obtain rfl:=Ab hF
 exact BI z z<|have hC22:=hC21.f1;⟨_,z,_,z,hC22⟩
theorem c_S_l5Method {w0:World} {Fs:List Tn} (pb1:Nat) (a1:Ti) (u1:Value) (g1:RO Fs.flatten w0 u1 a1.1) (a2:Ta) (u2:Value) (g2:RO Fs.flatten w0 u2 a2) (hH:Hold [Ah pb1 [u1,(I a1.2.1),(I a1.2.2)]] w0 Fs) (hn:Fs.flatten.Nodup) (rr:Tq) (hF:S.l5Method a1 a2=some rr) :
 Calls Tryz.prog 203 [(ptr pb1 0),u2].toArray w0 fun e w'=>∃v,e=.returned v∧∃q0:Value,v=q0∧Ctx Fs.flatten w0 w' [Ad q0 (rr.1:Te),Ah pb1 [u1,(I rr.2.2.1),(I rr.2.2.2)]]:=by
 refine Av Tryz.func203 z z ?_
 have hC0:=B7 hH hn
 unfold S.l5Method at hF
 refine Ac<|Bq hC0 zero110 z z fun b1 w1 hC1 hB1 hN1=>Aa<|Ac<|Ae z z<|Ae z z<|AH Ag g2 z z<|be hF fun x1 hr1 hF=>have hC2:=hC1.f1;?_
 obtain ⟨Fs1,hH1,hn1,hF1,hO1,hb1⟩:=hC2.lA
 refine AA Bp z z (c_S_l1Below pb1 (a1.1,a1.2.1,a1.2.2) u1 (Bd g1 hC2.keep hF1) (List.length a2:Int) hH1 hn1 x1 hr1) ?_
 rintro _ w2 ⟨rfl,hq1⟩
 have hC3:=hb1 _ _ hq1
 refine Ae z z<|Ar (vs:=[(I 0),(I 0),(I 0),(I 1),(I 2)]) hC3 Ag ty3 z z z z (fac z<|fac z<|fac z<|fac z<|fac z<|fa0) z z fun b2 w3 hC4 hB2=>?_
 have hC5:=hC4.row0 (α:=Int)
 have hC6:=hC5.triv (Bt (2))
 have hC7:=hC6.row1
 have hC8:=hC7.triv (Bt (1))
 have hC9:=hC8.row1
 have hC10:=hC9.triv (Bt (0))
 have hC11:=hC10.row1
 have hC12:=hC11.triv (Bt (0))
 have hC13:=hC12.row1
 have hC14:=hC13.triv (Bt (0))
 have hC15:=hC14.row1
 have hC16:=hC15.front 1 z
 dsimp only [List.eraseIdx,List.cons_append,List.nil_append,List.append_nil] at hC16
 have hC17:Ctx Fs.flatten w0 w3 (Ad (.slice (some ⟨b2,0,none⟩) 5 5) ([0,0,0,1,2]:List Int)::[Ah pb1 [u1,(I x1.2.2.1),(I x1.2.2.2)],Ah b1 [(I 0),(.slice none 0 0),(I 0),(I 0),(I 0)]]):=hC16.rowOwn (by simp [maxLen])
 refine be hF fun x2 hr2 hF=>have hC18:=hC17.f1;?_
 obtain ⟨Fs2,hH2,hn2,hF2,hO2,hb2⟩:=hC18.lA
 refine AA BT z z (c_S_l1PickInt pb1 (a1.1,x1.2.2.1,x1.2.2.2) u1 (Bd g1 hC18.keep hF2) ([0,0,0,1,2]) (.slice (some ⟨b2,0,none⟩) 5 5) (hO2 0 _ _ _ z) hH2 hn2 x2 hr2) ?_
 rintro _ w4 ⟨rfl,hq2⟩
 have hC19:=hb2 _ _ hq2
 refine Ae z z<|be hF fun x3 hr3 hF=>?_
 obtain ⟨Fs3,hH3,hn3,hF3,hO3,hb3⟩:=hC19.lA
 refine AA Bp z z (c_S_l1Below pb1 (a1.1,x2.2.2.1,x2.2.2.2) u1 (Bd g1 hC19.keep hF3) 5 hH3 hn3 x3 hr3) ?_
 rintro _ w5 ⟨rfl,hq3⟩
 have hC20:=hb3 _ _ hq3
 refine Ae z z<|be hF fun x4 hr4 hF=>?_
 obtain ⟨Fs4,hH4,hn4,hF4,hO4,hb4⟩:=hC20.lA
 refine AA Bp z z (c_S_l1Below pb1 (a1.1,x3.2.2.1,x3.2.2.2) u1 (Bd g1 hC20.keep hF4) 6 hH4 hn4 x4 hr4) ?_
 rintro _ w6 ⟨rfl,hq4⟩
 have hC21:=hb4 _ _ hq4
 refine AW z z z<|B4 (vs:=[(0,(I x1.1)),(2,(I x2.1)),(3,(I x3.1)),(4,(I (w64 (1+x4.1))))]) z z z (built110_0_2_3_4 z z z z)<|Bq hC21 zero110 z z fun b3 w7 hC22 hB3 hN2=>AE (cs':=[(I x1.1),(.slice none 0 0),(I x2.1),(I x3.1),(I (w64 (1+x4.1)))]) (new:=[(I x1.1),(.slice none 0 0),(I x2.1),(I x3.1),(I (w64 (1+x4.1)))]) hC22 0 z z (fac z<|fac z<|fac z<|fac z<|fac z<|fa0) z B6 z z fun w9 hC23 hKp1=>?_
 try dsimp only [List.set] at hC23
 have hk1:=AV (Ao hB3) hN2 hKp1
 refine Aa<|A0<|Ac<|Af z z<|Aa<|be hF fun r1 hr5 hF=>wN (fun l w=>∃x13:Int,∃v2:Value,∃x14:Ta,∃x15:Int,∃x16:Int,∃x17:Int,∃x18:Int,∃x19:Int,(x13,x14,x15,x16,x17,x18,x19)=r1∧l=[(4,(ptr b1 0)),(5,(ptr b3 0))]∧Ctx Fs.flatten w0 w [Ad v2 x14,Ah b3 [(I x13),v2,(I x15),(I x16),(I x17)],Ah pb1 [u1,(I x18),(I x19)],Ah b1 [(I 0),(.slice none 0 0),(I 0),(I 0),(I 0)]]) ?_ ?_
 ·refine A4 ?_
  have hC45:=hC23.triv (nil_val (α:=Int))
  have hC50:=hC45.f4.f3.f3.f3.h4
  refine wT<|Bj (fun k l w=>∃x5:Int,∃v1:Value,∃x6:Ta,∃x7:Int,∃x8:Int,∃x9:Int,∃x10:Int,∃x11:Int,∃x12:Int,l=[(0,(ptr pb1 0)),(1,u2),(4,(ptr b1 0)),(5,(ptr b3 0)),(6,(I x12))]∧Ctx Fs.flatten w0 w [Ad v1 x6,Ah b3 [(I x5),v1,(I x7),(I x8),(I x9)],Ah pb1 [u1,(I x10),(I x11)],Ah b1 [(I 0),(.slice none 0 0),(I 0),(I 0),(I 0)]]∧S.l5Method_l1 a2 a1 k x5 x6 x7 x8 x9 x10 x11 x12=some r1) FUEL ⟨x1.1,(.slice none 0 0),[],x2.1,x3.1,w64 (1+x4.1),x4.2.2.1,x4.2.2.2,0,z,hC50,hr5⟩<|?_
  clear hr5
  rintro k1 _ w10 ⟨x5,v1,x6,x7,x8,x9,x10,x11,x12,rfl,hC24,hL1⟩
  obtain _|k1:=k1<;>rw [S.l5Method_l1] at hL1
  ·cases hL1
  refine A0<|Ac<|Ae z z<|Ae z z<|fd AI A7 z z z z<|Al hC24 1 z z AU z z<|be hL1 fun x20 hx1 hL1=>A9 Ag ty3 g2 hx1 z z z fun b4 o1 h1=>AD ty3 h1 hC24.keep z z fun v3 h2=>?_
  obtain rfl:=Bo h2
  refine AZ z z z<|Aa<|wc hL1 z (fun hL1=>?_) fun hL1=>?_
  ·refine A5<|Am<|A0<|A4<|Ac<|Ae z z<|be hL1 fun x21 hr6 hL1=>have hC25:=hC24.f2;?_
   obtain ⟨Fs5,hH5,hn5,hF5,hO5,hb5⟩:=hC25.lA
   refine AA Cp z z (c_S_l1Once pb1 (a1.1,x10,x11) u1 (Bd g1 hC25.keep hF5) 3 hH5 hn5 x21 hr6) ?_
   rintro _ w11 ⟨rfl,hq5⟩
   have hC26:=hb5 _ _ hq5
   refine Aa<|be hL1 fun r2 hr7 hL1=>wB (fun l w=>∃x22:Int,∃v4:Value,∃x23:Ta,∃x24:Int,∃x25:Int,∃x26:Int,(x22,x23,x24,x25,x26)=r2∧l=[(0,(ptr pb1 0)),(1,u2),(4,(ptr b1 0)),(5,(ptr b3 0)),(6,(I x12))]∧Ctx Fs.flatten w0 w [Ah pb1 [u1,(I x21.2.2.1),(I x21.2.2.2)],Ad v4 x23,Ah b3 [(I x22),v4,(I x24),(I x25),(I x26)],Ah b1 [(I 0),(.slice none 0 0),(I 0),(I 0),(I 0)]]) ?_ ?_
   ·refine wc hr7 z (fun hr7=>?_) fun hr7=>?_
    ·refine AL<|fd AI Aq z z z z<|Al hC26 2 z z Au z z<|Ae z z<|Ar (vs:=[(I x12)]) hC26 Ag ty3 z z z z (fac z<|fa0) z z fun b5 w13 hC28 hB6=>?_
     have hC33:=hC28.row1i
     refine be hr7 fun x27 hx2 hr7=>AS (α:=Int) hC33 2 z (hC33.ro 0 z) (Ay _ _) Ag ty3 z hx2 z z z fun v5 w14 hC34=>?_
     try dsimp only [List.set] at hC34
     refine fd AI Aq z z z z<|B2 (cs':=[(I x5),v5,(I x7),(I x8),(I x9)]) hC34 3 z z (Br (hC34.ro 2 z)) z Aq z z fun w15 hC35 hKp2=>?_
     try dsimp only [List.set] at hC35
     refine Aa ?_
     have hC40:=hC35.f4.f4.f4.f4.h4
     exact nS<|⟨x5,v5,x27,x7,x8,x9,Ab hr7,z,hC40⟩
    exact A5<|nS<|⟨x5,v1,x6,x7,x8,x9,Ab hr7,z,hC26⟩
   rintro _ w12 ⟨x22,v4,x23,x24,x25,x26,rfl,rfl,hC27⟩
   try dsimp only at hL1
   exact AL<|Ae z z<|AW z z z<|Af z z<|Aa<|have hC41:=hC27.f3;have hC42:=hC41.f1;have hC43:=hC42.f3;have hC44:=hC43.f3;nS<|⟨k1,Aw _,x22,v4,x23,x24,x25,x26,x21.2.2.1,x21.2.2.2,w64 (x12+1),z,hC44,hL1⟩
  refine Bi (A2 (A2 (AM ?_)))
  exact nS<|⟨x5,v1,x6,x7,x8,x9,x10,x11,Ab hL1,z,hC24⟩
 rintro _ w16 ⟨x13,v2,x14,x15,x16,x17,x18,x19,rfl,rfl,hC51⟩
 try dsimp only at hF
 refine Ac<|Az [(I x13),v2,(I x15),(I x16),(I x17)] hC51 1 z z z BU B6 z z<|AE (cs':=[(I x13),v2,(I x15),(I x16),(I x17)]) (new:=[(I x13),v2,(I x15),(I x16),(I x17)]) hC51 3 z z (fac z<|fac (Br (hC51.ro 0 z))<|fac z<|fac z<|fac z<|fa0) z B6 z z fun w17 hC52 hKp3=>?_
 try dsimp only [List.set] at hC52
 refine Aa (AF ?_)
 obtain rfl:=Ab hF
 refine BY z (rv_cell_agg (cs':=[(I x13),v2,(I x15),(I x16),(I x17)]) hC52 (i:=3) z z z BU B6 z)<|have hC53:=hC52.f2;have hC55:=hC53.f1;?_
 have hC54:=own_st110 x13 v2 x14 x15 x16 x17 hC55
 have hC56:=hC54.h2
 exact ⟨_,z,_,z,hC56⟩
theorem c_S_l5Methods {w0:World} {Fs:List Tn} (pb1:Nat) (a1:Ti) (u1:Value) (g1:RO Fs.flatten w0 u1 a1.1) (a2:Ta) (u2:Value) (g2:RO Fs.flatten w0 u2 a2) (hH:Hold [Ah pb1 [u1,(I a1.2.1),(I a1.2.2)]] w0 Fs) (hn:Fs.flatten.Nodup) (rr:(Tf × Ti)) (hF:S.l5Methods a1 a2=some rr) :
 Calls Tryz.prog 163 [(ptr pb1 0),u2].toArray w0 fun e w'=>∃v,e=.returned v∧∃q0:Value,v=q0∧Ctx Fs.flatten w0 w' [Ad q0 (rr.1:Tf),Ah pb1 [u1,(I rr.2.2.1),(I rr.2.2.2)]]:=by
 refine Av Tryz.func163 z z ?_
 have hC0:=B7 hH hn
 unfold S.l5Methods at hF
 refine Ac<|Af z z<|Aa<|Ac<|Ar (vs:=[]) hC0 Bh ty110 z z z z (by simp) z z fun b1 w1 hC1 hB1=>?_
 have hC4:=hC1.rowE (α:=Te)
 refine Af z z<|Aa<|A0<|Ac<|Ae z z<|be hF fun x1 hr1 hF=>have hC5:=hC4.f1;?_
 obtain ⟨Fs1,hH1,hn1,hF1,hO1,hb1⟩:=hC5.lA
 refine AA Bp z z (c_S_l1Below pb1 (a1.1,a1.2.1,a1.2.2) u1 (Bd g1 hC5.keep hF1) 4 hH1 hn1 x1 hr1) ?_
 rintro _ w2 ⟨rfl,hq1⟩
 have hC6:=hb1 _ _ hq1
 refine AW z z z<|Af z z<|Aa<|be hF fun r1 hr2 hF=>wN (fun l w=>∃x6:Int,∃x7:Int,∃v2:Value,∃x8:Tf,(x6,x7,x8)=r1∧l=[(5,v2)]∧Ctx Fs.flatten w0 w [Ah pb1 [u1,(I x6),(I x7)],Ad v2 x8]) ?_ ?_
 ·refine A4<|wT<|Bj (fun k l w=>∃x2:Int,∃x3:Int,∃v1:Value,∃x4:Tf,∃x5:Int,l=[(0,(ptr pb1 0)),(1,u2),(5,v1),(6,(I x5))]∧Ctx Fs.flatten w0 w [Ah pb1 [u1,(I x2),(I x3)],Ad v1 x4]∧S.l5Methods_l1 a1 a2 k x2 x3 x4 x5=some r1) FUEL ⟨x1.2.2.1,x1.2.2.2,(.slice (some ⟨b1,0,none⟩) 0 0),([]:List Te),w64 (1+x1.1),z,hC6,hr2⟩<|?_
  clear hr2
  rintro k1 _ w3 ⟨x2,x3,v1,x4,x5,rfl,hC7,hL1⟩
  obtain _|k1:=k1<;>rw [S.l5Methods_l1] at hL1
  ·cases hL1
  refine A0<|Ac<|Ae z z<|Ck z z z<|Aa<|wc hL1 z (fun hL1=>?_) fun hL1=>?_
  ·refine A5<|Am<|A0<|A4<|Ac<|Ae z z<|Ae z z<|be hL1 fun x9 hr3 hL1=>?_
   obtain ⟨Fs2,hH2,hn2,hF2,hO2,hb2⟩:=hC7.lB
   refine AA Tryz.call203 z z (c_S_l5Method pb1 (a1.1,x2,x3) u1 (Bd g1 hC7.keep hF2) a2 u2 (Bd g2 hC7.keep hF2) hH2 hn2 x9 hr3) ?_
   rintro v3 w4 ⟨_,rfl,hq2⟩
   have hC8:=hb2 _ _ _ hq2
   obtain ⟨v4,rfl,hC9⟩:=st110_own hC8
   refine Bq hC9 zero110 z z fun b2 w5 hC10 hB3 hN1=>AE (cs':=[(I x9.1.1),v4,(I x9.1.2.2.1),(I x9.1.2.2.2.1),(I x9.1.2.2.2.2)]) (new:=[(I x9.1.1),v4,(I x9.1.2.2.1),(I x9.1.2.2.2.1),(I x9.1.2.2.2.2)]) hC10 0 z z (fac z<|fac (Br (hC10.ro 1 z))<|fac z<|fac z<|fac z<|fa0) z B6 z z fun w6 hC11 hKp1=>?_
   try dsimp only [List.set] at hC11
   have hk1:=AV (Ao hB3) hN1 hKp1
   refine Aa<|AL<|Ae z z<|Az [(I x9.1.1),v4,(I x9.1.2.2.1),(I x9.1.2.2.2.1),(I x9.1.2.2.2.2)] hC11 0 z z z BU B6 z z<|Ar (vs:=[(.agg #[(I x9.1.1),v4,(I x9.1.2.2.1),(I x9.1.2.2.2.1),(I x9.1.2.2.2.2)])]) hC11 Bh ty110 z z z z (fac z<|fa0) z z fun b3 w7 hC12 hB4=>?_
   have hC13:=hC12.row0 (α:=Te)
   have hC15:=hC13.f3
   have hC14:=own_st110 x9.1.1 v4 x9.1.2.1 x9.1.2.2.1 x9.1.2.2.2.1 x9.1.2.2.2.2 hC15
   have hC16:=hC14.row1
   have hC17:=hC16.front 1 z
   dsimp only [List.eraseIdx,List.cons_append,List.nil_append,List.append_nil] at hC17
   have hC18:Ctx Fs.flatten w0 w7 (Ad (.slice (some ⟨b3,0,none⟩) 1 1) ([(x9.1.1,x9.1.2.1,x9.1.2.2.1,x9.1.2.2.2.1,x9.1.2.2.2.2)]:List Te)::[Ah b2 [(I x9.1.1),v4,(I x9.1.2.2.1),(I x9.1.2.2.2.1),(I x9.1.2.2.2.2)],Ah pb1 [u1,(I x9.2.2.1),(I x9.2.2.2)],Ad v1 x4]):=hC17.rowOwn (by simp [maxLen])
   refine be hL1 fun x10 hx1 hL1=>Bf hC18 2 z Bh ty110 z hx1 z z z fun v5 w9 hC19=>?_
   try dsimp only [List.set] at hC19
   exact Af z z<|Aa<|AN<|Am<|AL<|Ae z z<|Cb z z z<|Af z z<|Aa<|have hC21:=hC19.f2;have hC22:=hC21.f2;have hC23:=hC22.h2;nS<|⟨k1,Aw _,x9.2.2.1,x9.2.2.2,v5,x10,w64 (x5 - 1),z,hC23,hL1⟩
  refine Bi (A2 (A2 (AM ?_)))
  exact nS<|⟨x2,x3,v1,x4,Ab hL1,z,hC7⟩
 rintro _ w10 ⟨x6,x7,v2,x8,rfl,rfl,hC24⟩
 try dsimp only at hF
 refine Ac<|Ae z z<|Af z z<|Aa<|AF<|?_
 obtain rfl:=Ab hF
 exact BI z z<|have hC25:=hC24.f1;⟨_,z,_,z,hC25⟩
end Go.Gx.Px
