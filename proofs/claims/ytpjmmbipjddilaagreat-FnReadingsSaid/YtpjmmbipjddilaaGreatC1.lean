/- The contracts of the Go functions against the pure functions, printed by program. Conditions: each says them. -/
import Derived.Test.YtpjmmbipjddilaaGreatTy
import Derived.Test.YtpjmmbipjddilaaGreatGxZn
import Derived.Test.YtpjmmbipjddilaaGreatPure
set_option linter.unusedVariables false
set_option linter.unusedSimpArgs false
set_option maxRecDepth 100000
set_option maxHeartbeats 4000000
namespace Go.Gx.Px
open Go.Proofs Go.RowKit
namespace K9
abbrev I (x : Int) : Value := .int .i64 x
abbrev Aa:=@Option.some.inj
abbrev Ab:=@WL_nil
abbrev Ac:=@Item.box
abbrev Ad:=@W_seq_reg
abbrev Ae:=@WL_move
abbrev Af:=@WL_assign
abbrev Ag:=@Item.own
abbrev Ah:=@Tryz.underlying25
abbrev Ai:=@WL_guard
abbrev Aj:=@WL_store_box_aggK
abbrev Ak:=@trivial
abbrev Al:=@Keep.of
abbrev Am:=@StepsE_cons
abbrev An:=@Below.refl
abbrev Ao:=@Nat.le_trans
abbrev Ap:=@Tryz.underlying24
abbrev Aq:=@WL_load_box
abbrev Ar:=@Keep.over
abbrev At:=@WL_load_box_agg
abbrev Au:=@AllE_cons
abbrev Av:=@nrm_normal
abbrev Aw:=@DepsE_nil
abbrev Ax:=@Tryz.sizeOf3
abbrev Ay:=@nrm_sub
abbrev Az:=@Tryz.sizeOf27
abbrev A0:=@FinE_val
abbrev A1:=@Tryz.underlying29
abbrev A2:=@nrm_ret
abbrev A3:=@calls_of_W
abbrev A4:=@Tryz.sizeOf24
abbrev A5:=@Tryz.underlying27
abbrev A6:=@Tryz.isAgg3
abbrev A7:=@DepsE_cons
abbrev A8:=@Tryz.isAgg27
abbrev A9:=@Tryz.sizeOf45
abbrev AA:=@W_seq
abbrev AB:=@fn_ret1
abbrev AC:=@Tryz.sizeOf49
abbrev AD:=@ite_t
abbrev AE:=@ite_f
abbrev AF:=@Tryz.underlying59
abbrev AG:=@Tryz.sizeOf25
abbrev AH:=@Ctx.start
abbrev AI:=@WL_pick_t
abbrev AJ:=@WL_call
abbrev AK:=@W_ret
abbrev AL:=@W_cond
abbrev AM:=@W_skip
abbrev AN:=@WL_buildSlice
abbrev AO:=@Nat.lt_succ_self
abbrev AP:=@Tryz.underlying93
abbrev AQ:=@Tryz.sizeOf29
abbrev AR:=@PW.val
abbrev AS:=@Ctx.lend2
abbrev AT:=@ro_one
abbrev AU:=@Tryz.isAgg24
abbrev AV:=@Tryz.underlying45
abbrev AW:=@nrm_exit
abbrev AX:=@RO.lent
abbrev AY:=@WL_pick_f
abbrev AZ:=@WL_index
abbrev Ba:=@StepsE_nil
abbrev Bb:=@W_block
abbrev Bc:=@WL_store_boxK
abbrev Bd:=@WL_allocK
abbrev Be:=@WL_load
abbrev Bf:=@bool_res
abbrev Bg:=@blk_normal
abbrev Bh:=@AllE_nil
abbrev Bi:=@Tryz.underlying43
abbrev Bj:=@Tryz.sizeOf59
abbrev Bk:=@Tryz.isAgg25
abbrev Bl:=@Tryz.isAgg45
abbrev Bm:=@nrm_sub'
abbrev Bn:=@WL_extract
abbrev Bo:=@WL_len
abbrev Bp:=@Tryz.isAgg49
abbrev Bq:=@WA_postsE
abbrev Br:=@Tryz.underlying49
abbrev Bt:=@W_reg
abbrev Bu:=@blk_ret
abbrev Bv:=@int_val
abbrev Bw:=@WL_add
abbrev Bx:=@W_norm
abbrev By:=@Tryz.isAgg29
abbrev Bz:=@WL_boxK
abbrev B0:=@Tryz.call55
abbrev B1:=@Tryz.underlying31
abbrev B2:=@WL_not
abbrev B3:=@WL_fork
abbrev B4:=@blk_exit
abbrev B5:=@Keep.refl
abbrev B6:=@Ctx.startIn
abbrev B7:=@int_res
abbrev B8:=@WL_lss
abbrev B9:=@Tryz.call47
abbrev BA:=@WL_append_head
abbrev BB:=@fl_field
abbrev BC:=@Tryz.sizeOf93
abbrev BD:=@WL_build
abbrev BE:=@W_loop
abbrev BF:=@W_exit
abbrev BG:=@Tryz.sizeOf4
abbrev BH:=@Tryz.underlying96
abbrev BI:=@Tryz.underlying39
abbrev BJ:=@ro_int
abbrev BK:=@fl_index
abbrev BL:=@W_cut
abbrev BM:=@ro_st29
abbrev BN:=@WL_append_flat
abbrev BO:=@WA_fork
abbrev BP:=@WL_eql
abbrev BQ:=@Tryz.call45
abbrev BR:=@fn_retG1
abbrev BS:=@Tryz.sizeOf31
abbrev BT:=@Tryz.isAgg59
abbrev BU:=@Tryz.underlying22
abbrev BV:=@WL_sub
abbrev BW:=@own_st49
abbrev BX:=@WL_nilCheck
abbrev BY:=@Tryz.call63
abbrev BZ:=@fn_retG2
abbrev Ca:=@ro_cells
abbrev Cb:=@own_st27
abbrev Cc:=@PW.at
abbrev Cd:=@Tryz.isAgg4
abbrev Ce:=@Tryz.isAgg93
abbrev Cf:=@own_res
abbrev Ci:=@WA_all2
abbrev Cj:=@own_st29
abbrev Ck:=@bool_val
abbrev Cl:=@WL_neq
abbrev Cm:=@Tryz.call65
abbrev Cn:=@nrm_subs
abbrev Co:=@fn_retG3
abbrev Cp:=@fl_build
abbrev Cq:=@FinE_own
abbrev Cr:=@WL_gtr
abbrev Cs:=@PW.ro
abbrev Ct:=@Tryz.call29
abbrev Cu:=@WL_geq
abbrev Cv:=@PW.own
abbrev Cw:=@WL_callv
abbrev Cx:=@res_bool
abbrev Cy:=@Tryz.underlying3
abbrev Cz:=@fl_sub
abbrev C0:=@Tryz.underlying4
abbrev C1:=@fl_nilCheck
abbrev C2:=@Tryz.call43
abbrev C3:=@WL_makeFunc
abbrev C4:=@Tryz.isAgg31
abbrev C5:=@fl_move
abbrev C6:=@WA_postsO
abbrev C7:=@fn_retG7
abbrev C8:=@W_cond_t
abbrev C9:=@W_cond_f
abbrev CA:=@fl_extract
abbrev CB:=@Tryz.call42
abbrev CC:=@Tryz.call84
abbrev CD:=@WL_sl_l
abbrev CE:=@WL_leq
abbrev CF:=@Tryz.underlying5
abbrev CG:=@fl_not
abbrev CH:=@WL_index_raw
abbrev CI:=@FinE_ctx
abbrev CJ:=@Tryz.call38
abbrev CK:=@Tryz.func72
abbrev CL:=@Tryz.call72
abbrev CM:=@own_st59
abbrev CN:=@ro_st93
abbrev CO:=@fl_len
end K9
open K9
theorem c_Q_big {w0:World} (a1:(List UInt8)) (u1:Value) (g1:RO [] w0 u1 a1) (rr:Bool) (hF:Q.big a1=some rr) :
 Calls Tryz.prog 5 [u1].toArray w0 fun e w'=>∃v,e=.returned v∧Res w0 rr v w':=by
 refine A3 Tryz.func5 z z ?_
 have hC0:=AH w0
 unfold Q.big at hF
 refine Ad<|Af z z<|Ab<|Ad<|Ae z z<|Bo BU g1 z z<|Cr z z z<|Af z z<|Ab<|AK<|?_
 obtain rfl:=Aa hF
 exact AB z z<|⟨_,z,Bf hC0 _⟩
theorem c_S_CompareFacts {w0:World} (a1:(Int × (List Int))) (u1:Value) (g1:RO [] w0 u1 a1.2) (a2:(Int × (List Int))) (u2:Value) (g2:RO [] w0 u2 a2.2) (rr:Int) (hF:S.CompareFacts a1 a2=some rr) :
 Calls Tryz.prog 42 [(.agg #[(I a1.1),u1]),(.agg #[(I a2.1),u2])].toArray w0 fun e w'=>∃v,e=.returned v∧Res w0 rr v w':=by
 refine A3 Tryz.func42 z z ?_
 have hC0:=AH w0
 unfold S.CompareFacts at hF
 refine Ad<|Bz (cs:=[(I a1.1),u1]) hC0 z z z fun b1 w1 hC1 hB1 hN1=>Bz (cs:=[(I a2.1),u2]) hC1 z z z fun b2 w2 hC2 hB2 hN2=>Af z z<|Ab<|AA<|Ad<|fd A1 Ax z z z z<|Aq hC2 1 z z A6 z z<|fd A1 Ax z z z z<|Aq hC2 0 z z A6 z z<|Cl z z z<|Ab<|AL z (fun hc1=>?_) (fun hc1=>?_)
 ·replace hF:=AD hF hc1
  refine AA<|Ad<|fd A1 Ax z z z z<|Aq hC2 1 z z A6 z z<|fd A1 Ax z z z z<|Aq hC2 0 z z A6 z z<|B8 z z z<|Ab<|AL z (fun hc2=>?_) (fun hc2=>?_)
  ·replace hF:=AD hF hc2
   refine Ad<|Af z z<|Ab<|AK<|A2<|A2<|?_
   obtain rfl:=Aa hF
   exact AB z z<|⟨_,z,B7 hC2 _⟩
  replace hF:=AE hF hc2
  refine AM<|Av<|Ad<|Af z z<|Ab<|AK<|A2<|?_
  obtain rfl:=Aa hF
  exact AB z z<|⟨_,z,B7 hC2 _⟩
 replace hF:=AE hF hc1
 refine AM<|Av<|AA<|Ad<|Af z z<|Ab<|be hF fun r1 hr1 hF=>Bx (fun l w=>.inl ()=r1∧l=[(2,(ptr b1 0)),(3,(ptr b2 0))]∧Below w2.heap.size w2 w∧Ctx [] w0 w [Ac b2 [(I a2.1),u2],Ac b1 [(I a1.1),u1]]) ?_ ?_
 ·refine Bb<|wS (l':=[(2,(ptr b1 0)),(3,(ptr b2 0)),(5,(I 0))]) ⟨z,z,z,Ak⟩<|BE (fun k l w=>∃x1:Int,l=[(2,(ptr b1 0)),(3,(ptr b2 0)),(5,(I x1))]∧Below w2.heap.size w2 w∧Ctx [] w0 w [Ac b2 [(I a2.1),u2],Ac b1 [(I a1.1),u1]]∧S.CompareFacts_l1 a1 a2 k x1=some r1) FUEL ⟨0,z,(An _ _),hC2,hr1⟩<|?_
  clear hr1
  rintro k1 _ w3 ⟨x1,rfl,hB3,hC3,hL1⟩
  cases k1 with
  | zero=>rw [S.CompareFacts_l1] at hL1; cases hL1
  | succ k1 =>
   rw [S.CompareFacts_l1] at hL1
   refine AA<|be hL1 fun r2 hr2 hL1=>BL (fun l w=>∃x2:Bool,x2=r2∧l=[(2,(ptr b1 0)),(3,(ptr b2 0)),(5,(I x1)),(27,(.bool x2))]∧Below w3.heap.size w3 w∧Ctx [] w0 w [Ac b2 [(I a2.1),u2],Ac b1 [(I a1.1),u1]]) ?_ ?_
   ·refine Bt<|Ae z z<|fd A1 A4 z z z z<|Aq hC3 1 z z AU z z<|Bo Ap g1 z z<|B8 z z z<|Ae z z<|B3 (fun hc3=>?_) (fun hc3=>?_)
    ·replace hr2:=AD hr2 hc3
     refine Ai z z<|Ae z z<|Ai z z<|fd A1 A4 z z z z<|Ai z z<|Aq hC3 0 z z AU z z<|Ai z z<|Bo Ap g2 z z<|Ai z z<|B8 z z z<|AI z z z<|Ab<|?_
     obtain rfl:=Aa hr2
     exact Ay (l':=[(2,(ptr b1 0)),(3,(ptr b2 0)),(5,(I x1)),(27,(.bool (decide (x1 < (List.length a2.2:Int)))))]) ⟨z,z,z,z,Ak⟩<|⟨(decide (x1 < (List.length a2.2:Int))),z,z,(An _ _),hC3⟩
    replace hr2:=AE hr2 hc3
    refine gs z z z z<|gs z z z z<|gs z z z z<|gs z z z z<|gs z z z z<|AY z z z<|Ab<|?_
    obtain rfl:=Aa hr2
    exact Ay (l':=[(2,(ptr b1 0)),(3,(ptr b2 0)),(5,(I x1)),(27,(.bool false))]) ⟨z,z,z,z,Ak⟩<|⟨false,z,z,(An _ _),hC3⟩
   rintro _ w4 ⟨x2,rfl,rfl,hB4,hC4⟩
   try dsimp only at hL1
   refine AL z (fun hc4=>?_) (fun hc4=>?_)
   ·replace hL1:=AD hL1 hc4
    refine AM<|Av<|AA<|Bb<|AA<|AA<|W_drawn 11 z hmix fun w5 hB5=>have hC5:=hC4.grow hB5;tf 0 A1 A4 z z z z z<|tm 2 z z z<|tf 5 A1 A4 z z z z z<|tm 7 z z z<|be hL1 fun x3 hx1 hL1=>be hL1 fun x4 hx2 hL1=>wAS (l':=[(2,(ptr b1 0)),(3,(ptr b2 0)),(5,(I x1)),(27,(.bool x2)),(30,(ptr b1 1)),(32,(I x1)),(35,(ptr b2 1)),(37,(I x1))]) ⟨z,z,z,z,z,z,z,z,Ak⟩<|Bq [⟨1,[],fun vs=>AR u1,[]⟩,⟨3,[],fun vs=>Cc [] w0 x3,[]⟩,⟨4,[],fun vs=>AR (I x3),[]⟩,⟨6,[],fun vs=>AR u2,[]⟩,⟨8,[],fun vs=>Cc [] w0 x4,[]⟩,⟨9,[],fun vs=>AR (I x4),[]⟩] [[],[1],[3],[],[6],[8]] 1 z (by kernel_rfl) (by kernel_rfl) z ?_ ?_
    ·refine Am z ?_ ?_
     ·intro w6 hB6
      refine Aw<|⟨_,z,?_⟩
      exact Aq (hC5.grow hB6) 1 z z AU z z<|Ab<|A0 (An _ _) z z ⟨z,z⟩
     refine Am z ?_ ?_
     ·intro w6 hB6
      refine A7 z z z ?_
      rintro _ _ ⟨rfl,rfl⟩ _
      refine Aw<|⟨_,z,?_⟩
      exact AZ Ap ty3 g1 hx1 z z z fun b3 o1 h1=>Ab<|A0 (An _ _) z z ⟨z,_,_,z,h1⟩
     refine Am z ?_ ?_
     ·intro w6 hB6
      refine A7 z z z ?_
      rintro _ _ ⟨rfl,b3,o1,rfl,h1⟩ _
      refine Aw<|⟨_,z,?_⟩
      refine Be ty3 h1 (hC5.keep.then hB6) z z (fun v1 h2=>?_)
      obtain rfl:=BJ h2
      exact Ab<|A0 (An _ _) z z ⟨z,z⟩
     refine Am z ?_ ?_
     ·intro w6 hB6
      refine Aw<|⟨_,z,?_⟩
      exact Aq (hC5.grow hB6) 0 z z AU z z<|Ab<|A0 (An _ _) z z ⟨z,z⟩
     refine Am z ?_ ?_
     ·intro w6 hB6
      refine A7 z z z ?_
      rintro _ _ ⟨rfl,rfl⟩ _
      refine Aw<|⟨_,z,?_⟩
      exact AZ Ap ty3 g2 hx2 z z z fun b4 o2 h3=>Ab<|A0 (An _ _) z z ⟨z,_,_,z,h3⟩
     refine Am z ?_ ?_
     ·intro w6 hB6
      refine A7 z z z ?_
      rintro _ _ ⟨rfl,b4,o2,rfl,h3⟩ _
      refine Aw<|⟨_,z,?_⟩
      refine Be ty3 h3 (hC5.keep.then hB6) z z (fun v2 h4=>?_)
      obtain rfl:=BJ h4
      exact Ab<|A0 (An _ _) z z ⟨z,z⟩
     exact Ba
    intro w7 hB7
    refine Au z z z ?_
    rintro _ _ ⟨rfl,rfl⟩
    refine Au z z z ?_
    rintro _ _ ⟨rfl,b3,o1,rfl,h1⟩
    refine Au z z z ?_
    rintro _ _ ⟨rfl,rfl⟩
    refine Au z z z ?_
    rintro _ _ ⟨rfl,rfl⟩
    refine Au z z z ?_
    rintro _ _ ⟨rfl,b4,o2,rfl,h3⟩
    refine Au z z z ?_
    rintro _ _ ⟨rfl,rfl⟩
    refine Bh fun hn1 hb1=>have hC6:=hC5.grow hB7;tk 10 z z (fl_lss z z)<|B8 z z z<|Ab<|dn<|Av<|AL z (fun hc5=>?_) (fun hc5=>?_)
    ·replace hL1:=AD hL1 hc5
     refine Ad<|Af z z<|Ab<|AK<|A2<|Bu<|A2<|A2<|Bu<|A2<|A2<|?_
     obtain rfl:=Aa hL1
     dsimp only at hF
     obtain rfl:=Aa hF
     exact AB z z<|⟨_,z,B7 hC6 _⟩
    replace hL1:=AE hL1 hc5
    refine AM<|Av<|AA<|W_drawn 11 z hmix fun w9 hB8=>have hC7:=hC6.grow hB8;tf 0 A1 A4 z z z z z<|tm 2 z z z<|tf 5 A1 A4 z z z z z<|tm 7 z z z<|be hL1 fun x5 hx3 hL1=>be hL1 fun x6 hx4 hL1=>wAS (l':=[(2,(ptr b1 0)),(3,(ptr b2 0)),(5,(I x1)),(27,(.bool x2)),(30,(ptr b1 1)),(31,u1),(32,(I x1)),(33,(ptr b3 o1)),(34,(I x3)),(35,(ptr b2 1)),(36,u2),(37,(I x1)),(38,(ptr b4 o2)),(39,(I x4)),(40,(.bool (decide (x3 < x4)))),(41,(ptr b1 1)),(43,(I x1)),(46,(ptr b2 1)),(48,(I x1))]) ⟨z,z,z,z,z,z,z,z,z,z,z,z,z,z,z,z,z,z,z,Ak⟩<|Bq [⟨1,[],fun vs=>AR u1,[]⟩,⟨3,[],fun vs=>Cc [] w0 x5,[]⟩,⟨4,[],fun vs=>AR (I x5),[]⟩,⟨6,[],fun vs=>AR u2,[]⟩,⟨8,[],fun vs=>Cc [] w0 x6,[]⟩,⟨9,[],fun vs=>AR (I x6),[]⟩] [[],[1],[3],[],[6],[8]] 1 z (by kernel_rfl) (by kernel_rfl) z ?_ ?_
    ·refine Am z ?_ ?_
     ·intro w10 hB9
      refine Aw<|⟨_,z,?_⟩
      exact Aq (hC7.grow hB9) 1 z z AU z z<|Ab<|A0 (An _ _) z z ⟨z,z⟩
     refine Am z ?_ ?_
     ·intro w10 hB9
      refine A7 z z z ?_
      rintro _ _ ⟨rfl,rfl⟩ _
      refine Aw<|⟨_,z,?_⟩
      exact AZ Ap ty3 g1 hx3 z z z fun b5 o3 h5=>Ab<|A0 (An _ _) z z ⟨z,_,_,z,h5⟩
     refine Am z ?_ ?_
     ·intro w10 hB9
      refine A7 z z z ?_
      rintro _ _ ⟨rfl,b5,o3,rfl,h5⟩ _
      refine Aw<|⟨_,z,?_⟩
      refine Be ty3 h5 (hC7.keep.then hB9) z z (fun v3 h6=>?_)
      obtain rfl:=BJ h6
      exact Ab<|A0 (An _ _) z z ⟨z,z⟩
     refine Am z ?_ ?_
     ·intro w10 hB9
      refine Aw<|⟨_,z,?_⟩
      exact Aq (hC7.grow hB9) 0 z z AU z z<|Ab<|A0 (An _ _) z z ⟨z,z⟩
     refine Am z ?_ ?_
     ·intro w10 hB9
      refine A7 z z z ?_
      rintro _ _ ⟨rfl,rfl⟩ _
      refine Aw<|⟨_,z,?_⟩
      exact AZ Ap ty3 g2 hx4 z z z fun b6 o4 h7=>Ab<|A0 (An _ _) z z ⟨z,_,_,z,h7⟩
     refine Am z ?_ ?_
     ·intro w10 hB9
      refine A7 z z z ?_
      rintro _ _ ⟨rfl,b6,o4,rfl,h7⟩ _
      refine Aw<|⟨_,z,?_⟩
      refine Be ty3 h7 (hC7.keep.then hB9) z z (fun v4 h8=>?_)
      obtain rfl:=BJ h8
      exact Ab<|A0 (An _ _) z z ⟨z,z⟩
     exact Ba
    intro w11 hB10
    refine Au z z z ?_
    rintro _ _ ⟨rfl,rfl⟩
    refine Au z z z ?_
    rintro _ _ ⟨rfl,b5,o3,rfl,h5⟩
    refine Au z z z ?_
    rintro _ _ ⟨rfl,rfl⟩
    refine Au z z z ?_
    rintro _ _ ⟨rfl,rfl⟩
    refine Au z z z ?_
    rintro _ _ ⟨rfl,b6,o4,rfl,h7⟩
    refine Au z z z ?_
    rintro _ _ ⟨rfl,rfl⟩
    refine Bh fun hn2 hb2=>have hC8:=hC7.grow hB10;tk 10 z z (fl_gtr z z)<|Cr z z z<|Ab<|dn<|Av<|AL z (fun hc6=>?_) (fun hc6=>?_)
    ·replace hL1:=AD hL1 hc6
     refine Ad<|Af z z<|Ab<|AK<|Bu<|A2<|A2<|Bu<|A2<|A2<|?_
     obtain rfl:=Aa hL1
     dsimp only at hF
     obtain rfl:=Aa hF
     exact AB z z<|⟨_,z,B7 hC8 _⟩
    replace hL1:=AE hL1 hc6
    exact AM<|Bg<|Av<|Bt<|Ae z z<|Bw z z z<|Af z z<|Ab<|Ay (l':=[(2,(ptr b1 0)),(3,(ptr b2 0)),(5,(I (w64 (x1+1))))]) ⟨z,z,z,Ak⟩<|⟨k1,AO _,w64 (x1+1),z,((((((Al hB3).then hB4).then hB5).then hB7).then hB8).then hB10).below,hC8,hL1⟩
   replace hL1:=AE hL1 hc4
   refine BF (AW (AW (B4 ?_)))
   obtain rfl:=Aa hL1
   exact Ay (l':=[(2,(ptr b1 0)),(3,(ptr b2 0))]) ⟨z,z,Ak⟩<|⟨z,z,((Al hB3).then hB4).below,hC4⟩
 rintro l3 _ w12 hs3 ⟨rfl,rfl,hB11,hC9⟩
 try dsimp only at hF
 refine Bm hs3 ?_
 clear hs3
 refine AA<|Ad<|fd A1 A4 z z z z<|Aq hC9 1 z z AU z z<|Bo Ap g1 z z<|fd A1 A4 z z z z<|Aq hC9 0 z z AU z z<|Bo Ap g2 z z<|B8 z z z<|Ab<|AL z (fun hc7=>?_) (fun hc7=>?_)
 ·replace hF:=AD hF hc7
  refine Ad<|Af z z<|Ab<|AK<|A2<|?_
  obtain rfl:=Aa hF
  exact AB z z<|⟨_,z,B7 hC9 _⟩
 replace hF:=AE hF hc7
 refine AM<|Av<|AA<|Ad<|fd A1 A4 z z z z<|Aq hC9 1 z z AU z z<|Bo Ap g1 z z<|fd A1 A4 z z z z<|Aq hC9 0 z z AU z z<|Bo Ap g2 z z<|Cr z z z<|Ab<|AL z (fun hc8=>?_) (fun hc8=>?_)
 ·replace hF:=AD hF hc8
  refine Ad<|Af z z<|Ab<|AK<|A2<|?_
  obtain rfl:=Aa hF
  exact AB z z<|⟨_,z,B7 hC9 _⟩
 replace hF:=AE hF hc8
 refine AM<|Av<|Ad<|Af z z<|Ab<|AK<|?_
 obtain rfl:=Aa hF
 exact AB z z<|⟨_,z,B7 hC9 _⟩
theorem c_S_SameFacts {w0:World} (a1:(List (Int × (List Int)))) (u1:Value) (g1:RO [] w0 u1 a1) (a2:(List (Int × (List Int)))) (u2:Value) (g2:RO [] w0 u2 a2) (rr:Bool) (hF:S.SameFacts a1 a2=some rr) :
 Calls Tryz.prog 9 [u1,u2].toArray w0 fun e w'=>∃v,e=.returned v∧Res w0 rr v w':=by
 refine A3 Tryz.func9 z z ?_
 have hC0:=AH w0
 unfold S.SameFacts at hF
 refine Ad<|Af z z<|Ab<|AA<|Ad<|Ae z z<|Bo Ah g1 z z<|Ae z z<|Bo Ah g2 z z<|Cl z z z<|Ab<|AL z (fun hc1=>?_) (fun hc1=>?_)
 ·replace hF:=AD hF hc1
  refine Ad<|Af z z<|Ab<|AK<|A2<|?_
  obtain rfl:=Aa hF
  exact AB z z<|⟨_,z,Bf hC0 _⟩
 replace hF:=AE hF hc1
 refine AM<|Av<|AA<|Ad<|Af z z<|Ab<|be hF fun r1 hr1 hF=>Bx (fun l w=>.inl ()=r1∧l=[]∧Below w0.heap.size w0 w∧Ctx [] w0 w []) ?_ ?_
 ·refine Bb<|wS (l':=[(0,u1),(1,u2),(5,(I 0))]) ⟨z,z,z,Ak⟩<|BE (fun k l w=>∃x1:Int,l=[(0,u1),(1,u2),(5,(I x1))]∧Below w0.heap.size w0 w∧Ctx [] w0 w []∧S.SameFacts_l1 a1 a2 k x1=some r1) FUEL ⟨0,z,(An _ _),hC0,hr1⟩<|?_
  clear hr1
  rintro k1 _ w1 ⟨x1,rfl,hB1,hC1,hL1⟩
  cases k1 with
  | zero=>rw [S.SameFacts_l1] at hL1; cases hL1
  | succ k1 =>
   rw [S.SameFacts_l1] at hL1
   refine AA<|Ad<|Ae z z<|Ae z z<|Bo Ah g1 z z<|B8 z z z<|Ab<|AL z (fun hc2=>?_) (fun hc2=>?_)
   ·replace hL1:=AD hL1 hc2
    refine AM<|Av<|AA<|Bb<|AA<|W_drawn 10 z hmix fun w2 hB2=>have hC2:=hC1.grow hB2;tm 0 z z z<|tm 1 z z z<|be hL1 fun x2 hx1 hL1=>tk 2 z z (BK Ah ty29 g1 hx1 z z)<|AZ Ah ty29 g1 hx1 z z z fun b1 o1 h1=>Ab<|tm 4 z z z<|tm 5 z z z<|be hL1 fun x3 hx2 hL1=>tk 6 z z (BK Ah ty29 g2 hx2 z z)<|AZ Ah ty29 g2 hx2 z z z fun b2 o2 h2=>Ab<|wAS (l':=[(0,u1),(1,u2),(5,(I x1)),(11,(I x1)),(12,u1),(13,(I (List.length a1:Int))),(14,(.bool (decide (x1 < (List.length a1:Int))))),(17,u1),(18,(I x1)),(19,(ptr b1 o1)),(21,u2),(22,(I x1)),(23,(ptr b2 o2))]) ⟨z,z,z,z,z,z,z,z,z,z,z,z,z,Ak⟩<|Bq [⟨3,[],fun vs=>Cs [] w0 x2,[]⟩,⟨7,[],fun vs=>Cs [] w0 x3,[]⟩] [[],[]] 2 z (by kernel_rfl) (by kernel_rfl) z ?_ ?_
    ·refine Am z ?_ ?_
     ·intro w3 hB3
      refine Aw<|⟨_,z,?_⟩
      exact Be ty29 h1 (hC2.keep.then hB3) z z fun v3 h5=>Ab<|A0 (An _ _) z z ⟨z,h5⟩
     refine Am z ?_ ?_
     ·intro w3 hB3
      refine Aw<|⟨_,z,?_⟩
      exact Be ty29 h2 (hC2.keep.then hB3) z z fun v6 h8=>Ab<|A0 (An _ _) z z ⟨z,h8⟩
     exact Ba
    intro w4 hB4
    refine Au z z z ?_
    rintro v3 _ ⟨rfl,h5⟩
    obtain ⟨v2,rfl,h4⟩:=BM h5
    refine Au z z z ?_
    rintro v6 _ ⟨rfl,h8⟩
    obtain ⟨v5,rfl,h7⟩:=BM h8
    refine Bh fun hn1 hb1=>have hC3:=hC2.grow hB4;be hL1 fun x4 hr2 hL1=>oe 8 z<|ci CB z z (c_S_CompareFacts x2 v2 (h4.now hC3.keep) x3 v5 (h7.now hC3.keep) x4 hr2) fun w5 hB5=>have hC4:=hC3.grow hB5;Ab<|tk 9 z z (fl_neq z z)<|Cl z z z<|Ab<|dn<|Av<|AL z (fun hc3=>?_) (fun hc3=>?_)
    ·replace hL1:=AD hL1 hc3
     refine Ad<|Af z z<|Ab<|AK<|Bu<|A2<|A2<|Bu<|A2<|A2<|?_
     obtain rfl:=Aa hL1
     dsimp only at hF
     obtain rfl:=Aa hF
     exact AB z z<|⟨_,z,Bf hC4 _⟩
    replace hL1:=AE hL1 hc3
    exact AM<|Bg<|Av<|Bt<|Ae z z<|Bw z z z<|Af z z<|Ab<|Ay (l':=[(0,u1),(1,u2),(5,(I (w64 (x1+1))))]) ⟨z,z,z,Ak⟩<|⟨k1,AO _,w64 (x1+1),z,((((Al hB1).then hB2).then hB4).then hB5).below,hC4,hL1⟩
   replace hL1:=AE hL1 hc2
   refine BF (AW (AW (B4 ?_)))
   obtain rfl:=Aa hL1
   exact Ay (l':=[]) Ak<|⟨z,z,(Al hB1).below,hC1⟩
 rintro l2 _ w6 hs2 ⟨rfl,rfl,hB6,hC5⟩
 try dsimp only at hF
 refine Bm hs2 ?_
 clear hs2
 refine Ad<|Af z z<|Ab<|AK<|?_
 obtain rfl:=Aa hF
 exact AB z z<|⟨_,z,Bf hC5 _⟩
theorem c_S_l1New {w0:World} (a1:(List UInt8)) (u1:Value) (g1:RO [] w0 u1 a1) (rr:((List UInt8) × Int × Int)) (hF:S.l1New a1=some rr) :
 Calls Tryz.prog 27 [u1].toArray w0 fun e w'=>∃v,e=.returned v∧∃q0:Nat,v=(ptr q0 0)∧Ctx [] w0 w' [Ac q0 [u1,(I rr.2.1),(I rr.2.2)]]:=by
 refine A3 Tryz.func27 z z ?_
 have hC0:=AH w0
 unfold S.l1New at hF
 refine Ad<|Af z z<|Ab<|Ad<|Ae z z<|Bo BU g1 z z<|Bw z z z<|Af z z<|Ab<|AA<|Ad<|Af z z<|Ab<|be hF fun r1 hr1 hF=>Bx (fun l w=>∃x3:Int,x3=r1∧l=[(0,u1),(3,(I x3))]∧Below w0.heap.size w0 w∧Ctx [] w0 w []) ?_ ?_
 ·refine Bb<|wS (l':=[(0,u1),(3,(I (w64 (10101+(List.length a1:Int))))),(4,(I 0))]) ⟨z,z,z,Ak⟩<|BE (fun k l w=>∃x1:Int,∃x2:Int,l=[(0,u1),(3,(I x1)),(4,(I x2))]∧Below w0.heap.size w0 w∧Ctx [] w0 w []∧S.l1New_l1 a1 k x1 x2=some r1) FUEL ⟨w64 (10101+(List.length a1:Int)),0,z,(An _ _),hC0,hr1⟩<|?_
  clear hr1
  rintro k1 _ w1 ⟨x1,x2,rfl,hB1,hC1,hL1⟩
  cases k1 with
  | zero=>rw [S.l1New_l1] at hL1; cases hL1
  | succ k1 =>
   rw [S.l1New_l1] at hL1
   refine AA<|be hL1 fun r2 hr2 hL1=>BL (fun l w=>∃x4:Bool,x4=r2∧l=[(0,u1),(3,(I x1)),(4,(I x2)),(15,(.bool x4))]∧Below w1.heap.size w1 w∧Ctx [] w0 w []) ?_ ?_
   ·refine Bt<|Ae z z<|Ae z z<|Bo BU g1 z z<|B8 z z z<|Ae z z<|B3 (fun hc1=>?_) (fun hc1=>?_)
    ·replace hr2:=AD hr2 hc1
     refine Ai z z<|Ae z z<|Ai z z<|B8 z z z<|AI z z z<|Ab<|?_
     obtain rfl:=Aa hr2
     exact Ay (l':=[(0,u1),(3,(I x1)),(4,(I x2)),(15,(.bool (decide (x2 < 4000))))]) ⟨z,z,z,z,Ak⟩<|⟨(decide (x2 < 4000)),z,z,(An _ _),hC1⟩
    replace hr2:=AE hr2 hc1
    refine gs z z z z<|gs z z z z<|AY z z z<|Ab<|?_
    obtain rfl:=Aa hr2
    exact Ay (l':=[(0,u1),(3,(I x1)),(4,(I x2)),(15,(.bool false))]) ⟨z,z,z,z,Ak⟩<|⟨false,z,z,(An _ _),hC1⟩
   rintro _ w2 ⟨x4,rfl,rfl,hB2,hC2⟩
   try dsimp only at hL1
   refine AL z (fun hc2=>?_) (fun hc2=>?_)
   ·replace hL1:=AD hL1 hc2
    refine AM<|Av<|AA<|Bb<|Bt<|Ae z z<|WL_mul z z z<|Ae z z<|Ae z z<|be hL1 fun x5 hx1 hL1=>AZ BU ty5 g1 hx1 z z z fun b1 o1 h1=>Be ty5 h1 hC2.keep z z fun v1 h2=>?_
    obtain rfl:=ro_u8 h2
    exact WL_conv_i64 CF Cy z z<|Bw z z z<|Bw z z z<|WL_band z z z<|Af z z<|Ab<|Bg<|Av<|Bt<|Ae z z<|Bw z z z<|Af z z<|Ab<|Ay (l':=[(0,u1),(3,(I (band (w64 ((w64 ((w64 (x1 * 131))+(w64 (UInt8.toNat x5:Int))))+7)) 1073741823))),(4,(I (w64 (x2+1))))]) ⟨z,z,z,Ak⟩<|⟨k1,AO _,band (w64 ((w64 ((w64 (x1 * 131))+(w64 (UInt8.toNat x5:Int))))+7)) 1073741823,w64 (x2+1),z,((Al hB1).then hB2).below,hC2,hL1⟩
   replace hL1:=AE hL1 hc2
   refine BF (AW (AW (B4 ?_)))
   obtain rfl:=Aa hL1
   exact Ay (l':=[(0,u1),(3,(I x1))]) ⟨z,z,Ak⟩<|⟨x1,z,z,((Al hB1).then hB2).below,hC2⟩
 rintro l3 _ w3 hs3 ⟨x3,rfl,rfl,hB3,hC3⟩
 try dsimp only at hF
 refine Bm hs3 ?_
 clear hs3
 refine Ad<|Ae z z<|Ae z z<|BD (vs:=[(0,u1),(2,(I x3))]) z z z (built96_0_2 (Ca g1) z)<|Bz (cs:=[u1,(I 0),(I x3)]) hC3 z z z fun b2 w4 hC4 hB4 hN1=>Af z z<|Ab<|AK<|?_
 obtain rfl:=Aa hF
 exact AB z z<|⟨_,z,_,z,hC4⟩
theorem c_S_l1Byte {w0:World} {Fs:List (List Nat)} (pb1:Nat) (a1:((List UInt8) × Int × Int)) (u1:Value) (g1:RO Fs.flatten w0 u1 a1.1) (hH:Hold [Ac pb1 [u1,(I a1.2.1),(I a1.2.2)]] w0 Fs) (hn:Fs.flatten.Nodup) (rr:(Int × ((List UInt8) × Int × Int))) (hF:S.l1Byte a1=some rr) :
 Calls Tryz.prog 84 [(ptr pb1 0)].toArray w0 fun e w'=>∃v,e=.returned v∧v=(I rr.1)∧Ctx Fs.flatten w0 w' [Ac pb1 [u1,(I rr.2.2.1),(I rr.2.2.2)]]:=by
 refine A3 Tryz.func84 z z ?_
 have hC0:=B6 hH hn
 unfold S.l1Byte at hF
 refine Ad<|Af z z<|Ab<|Ad<|Ae z z<|Ae z z<|BX z z<|fd BH Ax z z z z<|Aq hC0 0 z z A6 z z<|WL_mul z z z<|Bw z z z<|BX z z<|fd BH Ax z z z z<|Bc (cs':=[u1,(I a1.2.1),(I (w64 ((w64 (a1.2.2 * 6364136223846793005))+1442695040888963407)))]) hC0 0 z z z z Ax z z fun w1 hC1 hKp1=>?_
 try dsimp only [List.set] at hC1
 refine Ab<|AA<|W_drawn 13 z hmix fun w2 hB1=>have hC2:=hC1.grow hB1;tm 0 z z z<|tk 1 z z (C1 z)<|BX z z<|Ab<|tf 2 BH Ax z z z z z<|tm 5 z z z<|tk 6 z z (C1 z)<|BX z z<|Ab<|tf 7 BH Ax z z z z z<|wAS (l':=[(0,(ptr pb1 0)),(2,(I 0)),(4,(ptr pb1 0)),(5,(ptr pb1 0)),(6,(ptr pb1 0)),(7,(ptr pb1 2)),(8,(I a1.2.2)),(9,(I (w64 (a1.2.2 * 6364136223846793005)))),(10,(I (w64 ((w64 (a1.2.2 * 6364136223846793005))+1442695040888963407)))),(11,(ptr pb1 0)),(12,(ptr pb1 2)),(13,(ptr pb1 0)),(14,(ptr pb1 0)),(15,(ptr pb1 2)),(18,(ptr pb1 0)),(19,(ptr pb1 0)),(20,(ptr pb1 2))]) ⟨z,z,z,z,z,z,z,z,z,z,z,z,z,z,z,z,z,Ak⟩<|Bq [⟨3,[],fun vs=>AR (I (w64 ((w64 (a1.2.2 * 6364136223846793005))+1442695040888963407))),[]⟩,⟨4,[],fun vs=>AR (I (shr (w64 ((w64 (a1.2.2 * 6364136223846793005))+1442695040888963407)) 33)),[]⟩,⟨8,[],fun vs=>AR (I (w64 ((w64 (a1.2.2 * 6364136223846793005))+1442695040888963407))),[]⟩,⟨9,[],fun vs=>AR (I (shr (w64 ((w64 (a1.2.2 * 6364136223846793005))+1442695040888963407)) 45)),[]⟩] [[],[3],[],[8]] 3 z (by kernel_rfl) (by kernel_rfl) z ?_ ?_
 ·refine Am z ?_ ?_
  ·intro w3 hB2
   refine Aw<|⟨_,z,?_⟩
   exact Aq (hC2.grow hB2) 0 z z A6 z z<|Ab<|A0 (An _ _) z z ⟨z,z⟩
  refine Am z ?_ ?_
  ·intro w3 hB2
   refine A7 z z z ?_
   rintro _ _ ⟨rfl,rfl⟩ _
   refine Aw<|⟨_,z,?_⟩
   exact WL_shr (by decide) z z z<|Ab<|A0 (An _ _) z z ⟨z,z⟩
  refine Am z ?_ ?_
  ·intro w3 hB2
   refine Aw<|⟨_,z,?_⟩
   exact Aq (hC2.grow hB2) 0 z z A6 z z<|Ab<|A0 (An _ _) z z ⟨z,z⟩
  refine Am z ?_ ?_
  ·intro w3 hB2
   refine A7 z z z ?_
   rintro _ _ ⟨rfl,rfl⟩ _
   refine Aw<|⟨_,z,?_⟩
   exact WL_shr (by decide) z z z<|Ab<|A0 (An _ _) z z ⟨z,z⟩
  exact Ba
 intro w4 hB3
 refine Au z z z ?_
 rintro _ _ ⟨rfl,rfl⟩
 refine Au z z z ?_
 rintro _ _ ⟨rfl,rfl⟩
 refine Au z z z ?_
 rintro _ _ ⟨rfl,rfl⟩
 refine Au z z z ?_
 rintro _ _ ⟨rfl,rfl⟩
 refine Bh fun hn1 hb1=>have hC3:=hC2.grow hB3;tk 10 z z (fl_bxor z z)<|WL_bxor z z z<|Ab<|tk 11 z z (fl_band z z)<|WL_band z z z<|Ab<|ta 12 z z z<|dn<|Av<|AA<|AA<|W_drawn 10 z hmix fun w5 hB4=>have hC4:=hC3.grow hB4;tm 0 z z z<|tk 1 z z (C1 z)<|BX z z<|Ab<|tf 2 BH Ax z z z z z<|tm 4 z z z<|tk 5 z z (C1 z)<|BX z z<|Ab<|tf 6 BH Tryz.sizeOf22 z z z z z<|wAS (l':=[(0,(ptr pb1 0)),(2,(I 0)),(3,(I (band (bxor (shr (w64 ((w64 (a1.2.2 * 6364136223846793005))+1442695040888963407)) 33) (shr (w64 ((w64 (a1.2.2 * 6364136223846793005))+1442695040888963407)) 45)) 255))),(4,(ptr pb1 0)),(5,(ptr pb1 0)),(6,(ptr pb1 0)),(7,(ptr pb1 2)),(8,(I a1.2.2)),(9,(I (w64 (a1.2.2 * 6364136223846793005)))),(10,(I (w64 ((w64 (a1.2.2 * 6364136223846793005))+1442695040888963407)))),(11,(ptr pb1 0)),(12,(ptr pb1 2)),(13,(ptr pb1 0)),(14,(ptr pb1 0)),(15,(ptr pb1 2)),(16,(I (w64 ((w64 (a1.2.2 * 6364136223846793005))+1442695040888963407)))),(17,(I (shr (w64 ((w64 (a1.2.2 * 6364136223846793005))+1442695040888963407)) 33))),(18,(ptr pb1 0)),(19,(ptr pb1 0)),(20,(ptr pb1 2)),(21,(I (w64 ((w64 (a1.2.2 * 6364136223846793005))+1442695040888963407)))),(22,(I (shr (w64 ((w64 (a1.2.2 * 6364136223846793005))+1442695040888963407)) 45))),(23,(I (bxor (shr (w64 ((w64 (a1.2.2 * 6364136223846793005))+1442695040888963407)) 33) (shr (w64 ((w64 (a1.2.2 * 6364136223846793005))+1442695040888963407)) 45)))),(24,(I (band (bxor (shr (w64 ((w64 (a1.2.2 * 6364136223846793005))+1442695040888963407)) 33) (shr (w64 ((w64 (a1.2.2 * 6364136223846793005))+1442695040888963407)) 45)) 255))),(25,(ptr pb1 0)),(26,(ptr pb1 0)),(27,(ptr pb1 1)),(29,(ptr pb1 0)),(30,(ptr pb1 0)),(31,(ptr pb1 0))]) ⟨z,z,z,z,z,z,z,z,z,z,z,z,z,z,z,z,z,z,z,z,z,z,z,z,z,z,z,z,z,z,Ak⟩<|Bq [⟨3,[],fun vs=>AR (I a1.2.1),[]⟩,⟨7,[],fun vs=>AR u1,[]⟩,⟨8,[],fun vs=>AR (I (List.length a1.1:Int)),[]⟩] [[],[],[7]] 1 z (by kernel_rfl) (by kernel_rfl) z ?_ ?_
 ·refine Am z ?_ ?_
  ·intro w6 hB5
   refine Aw<|⟨_,z,?_⟩
   exact Aq (hC4.grow hB5) 0 z z A6 z z<|Ab<|A0 (An _ _) z z ⟨z,z⟩
  refine Am z ?_ ?_
  ·intro w6 hB5
   refine Aw<|⟨_,z,?_⟩
   exact Aq (hC4.grow hB5) 0 z z Tryz.isAgg22 z z<|Ab<|A0 (An _ _) z z ⟨z,z⟩
  refine Am z ?_ ?_
  ·intro w6 hB5
   refine A7 z z z ?_
   rintro _ _ ⟨rfl,rfl⟩ _
   refine Aw<|⟨_,z,?_⟩
   exact Bo BU g1 z z<|Ab<|A0 (An _ _) z z ⟨z,z⟩
  exact Ba
 intro w7 hB6
 refine Au z z z ?_
 rintro _ _ ⟨rfl,rfl⟩
 refine Au z z z ?_
 rintro _ _ ⟨rfl,rfl⟩
 refine Au z z z ?_
 rintro _ _ ⟨rfl,rfl⟩
 refine Bh fun hn2 hb2=>have hC5:=hC4.grow hB6;tk 9 z z (fl_lss z z)<|B8 z z z<|Ab<|dn<|Av<|be hF fun r1 hr1 hF=>Bx (fun l w=>∃x1:Int,∃x2:Int,∃x3:Int,(x1,x2,x3)=r1∧l=[(3,(I x3))]∧Ctx Fs.flatten w0 w [Ac pb1 [u1,(I x1),(I x2)]]) ?_ ?_
 ·refine AL z (fun hc1=>?_) (fun hc1=>?_)
  ·replace hr1:=AD hr1 hc1
   refine AA<|W_drawn 15 z hmix fun w10 hB8=>have hC7:=hC5.grow hB8;tm 0 z z z<|tm 1 z z z<|tk 2 z z (C1 z)<|BX z z<|Ab<|tf 3 BH Tryz.sizeOf22 z z z z z<|tm 5 z z z<|tk 6 z z (C1 z)<|BX z z<|Ab<|tf 7 BH Ax z z z z z<|wAS (l':=[(0,(ptr pb1 0)),(2,(I 0)),(3,(I (band (bxor (shr (w64 ((w64 (a1.2.2 * 6364136223846793005))+1442695040888963407)) 33) (shr (w64 ((w64 (a1.2.2 * 6364136223846793005))+1442695040888963407)) 45)) 255))),(4,(ptr pb1 0)),(5,(ptr pb1 0)),(6,(ptr pb1 0)),(7,(ptr pb1 2)),(8,(I a1.2.2)),(9,(I (w64 (a1.2.2 * 6364136223846793005)))),(10,(I (w64 ((w64 (a1.2.2 * 6364136223846793005))+1442695040888963407)))),(11,(ptr pb1 0)),(12,(ptr pb1 2)),(13,(ptr pb1 0)),(14,(ptr pb1 0)),(15,(ptr pb1 2)),(16,(I (w64 ((w64 (a1.2.2 * 6364136223846793005))+1442695040888963407)))),(17,(I (shr (w64 ((w64 (a1.2.2 * 6364136223846793005))+1442695040888963407)) 33))),(18,(ptr pb1 0)),(19,(ptr pb1 0)),(20,(ptr pb1 2)),(21,(I (w64 ((w64 (a1.2.2 * 6364136223846793005))+1442695040888963407)))),(22,(I (shr (w64 ((w64 (a1.2.2 * 6364136223846793005))+1442695040888963407)) 45))),(23,(I (bxor (shr (w64 ((w64 (a1.2.2 * 6364136223846793005))+1442695040888963407)) 33) (shr (w64 ((w64 (a1.2.2 * 6364136223846793005))+1442695040888963407)) 45)))),(24,(I (band (bxor (shr (w64 ((w64 (a1.2.2 * 6364136223846793005))+1442695040888963407)) 33) (shr (w64 ((w64 (a1.2.2 * 6364136223846793005))+1442695040888963407)) 45)) 255))),(25,(ptr pb1 0)),(26,(ptr pb1 0)),(27,(ptr pb1 1)),(28,(I a1.2.1)),(29,(ptr pb1 0)),(30,(ptr pb1 0)),(31,(ptr pb1 0)),(32,u1),(33,(I (List.length a1.1:Int))),(34,(.bool (decide (a1.2.1 < (List.length a1.1:Int))))),(35,(I (band (bxor (shr (w64 ((w64 (a1.2.2 * 6364136223846793005))+1442695040888963407)) 33) (shr (w64 ((w64 (a1.2.2 * 6364136223846793005))+1442695040888963407)) 45)) 255))),(36,(ptr pb1 0)),(37,(ptr pb1 0)),(38,(ptr pb1 0)),(40,(ptr pb1 0)),(41,(ptr pb1 0)),(42,(ptr pb1 1))]) ⟨z,z,z,z,z,z,z,z,z,z,z,z,z,z,z,z,z,z,z,z,z,z,z,z,z,z,z,z,z,z,z,z,z,z,z,z,z,z,z,z,z,Ak⟩<|Bq [⟨4,[],fun vs=>AR u1,[]⟩,⟨8,[],fun vs=>AR (I a1.2.1),[]⟩] [[],[]] 6 z (by kernel_rfl) (by kernel_rfl) z ?_ ?_
   ·refine Am z ?_ ?_
    ·intro w11 hB9
     refine Aw<|⟨_,z,?_⟩
     exact Aq (hC7.grow hB9) 0 z z Tryz.isAgg22 z z<|Ab<|A0 (An _ _) z z ⟨z,z⟩
    refine Am z ?_ ?_
    ·intro w11 hB9
     refine Aw<|⟨_,z,?_⟩
     exact Aq (hC7.grow hB9) 0 z z A6 z z<|Ab<|A0 (An _ _) z z ⟨z,z⟩
    exact Ba
   intro w12 hB10
   refine Au z z z ?_
   rintro _ _ ⟨rfl,rfl⟩
   refine Au z z z ?_
   rintro _ _ ⟨rfl,rfl⟩
   refine Bh fun hn3 hb3=>have hC8:=hC7.grow hB10;be hr1 fun x4 hx1 hr1=>tk 9 z z (BK BU ty5 g1 hx1 z z)<|AZ BU ty5 g1 hx1 z z z fun b1 o1 h1=>Ab<|oe 10 z<|Be ty5 h1 hC8.keep z z fun v1 h2=>?_
   obtain rfl:=ro_u8 h2
   refine Ab<|tk 11 z z (fl_conv_int CF Cy z)<|WL_conv_i64 CF Cy z z<|Ab<|tk 12 z z (fl_add z z)<|Bw z z z<|Ab<|tk 13 z z (fl_band z z)<|WL_band z z z<|Ab<|ta 14 z z z<|dn<|Av<|Bt<|Ae z z<|Ae z z<|BX z z<|fd BH Ax z z z z<|Aq hC8 0 z z A6 z z<|Bw z z z<|BX z z<|fd BH Ax z z z z<|Bc (cs':=[u1,(I (w64 (a1.2.1+1))),(I (w64 ((w64 (a1.2.2 * 6364136223846793005))+1442695040888963407)))]) hC8 0 z z z z Ax z z fun w13 hC9 hKp2=>?_
   try dsimp only [List.set] at hC9
   refine Ab ?_
   obtain rfl:=Aa hr1
   exact Ay (l':=[(3,(I (band (w64 ((band (bxor (shr (w64 ((w64 (a1.2.2 * 6364136223846793005))+1442695040888963407)) 33) (shr (w64 ((w64 (a1.2.2 * 6364136223846793005))+1442695040888963407)) 45)) 255)+(w64 (UInt8.toNat x4:Int)))) 255)))]) ⟨z,Ak⟩<|⟨w64 (a1.2.1+1),w64 ((w64 (a1.2.2 * 6364136223846793005))+1442695040888963407),band (w64 ((band (bxor (shr (w64 ((w64 (a1.2.2 * 6364136223846793005))+1442695040888963407)) 33) (shr (w64 ((w64 (a1.2.2 * 6364136223846793005))+1442695040888963407)) 45)) 255)+(w64 (UInt8.toNat x4:Int)))) 255,z,z,hC9⟩
  replace hr1:=AE hr1 hc1
  refine AM ?_
  obtain rfl:=Aa hr1
  exact Ay (l':=[(3,(I (band (bxor (shr (w64 ((w64 (a1.2.2 * 6364136223846793005))+1442695040888963407)) 33) (shr (w64 ((w64 (a1.2.2 * 6364136223846793005))+1442695040888963407)) 45)) 255)))]) ⟨z,Ak⟩<|⟨a1.2.1,w64 ((w64 (a1.2.2 * 6364136223846793005))+1442695040888963407),band (bxor (shr (w64 ((w64 (a1.2.2 * 6364136223846793005))+1442695040888963407)) 33) (shr (w64 ((w64 (a1.2.2 * 6364136223846793005))+1442695040888963407)) 45)) 255,z,z,hC5⟩
 rintro l1 _ w9 hs1 ⟨x1,x2,x3,rfl,rfl,hC6⟩
 try dsimp only at hF
 refine Bm hs1 ?_
 clear hs1
 refine Ad<|Ae z z<|Af z z<|Ab<|AK<|?_
 obtain rfl:=Aa hF
 exact AB z z<|⟨_,z,z,hC6⟩
theorem c_S_l1Below {w0:World} {Fs:List (List Nat)} (pb1:Nat) (a1:((List UInt8) × Int × Int)) (u1:Value) (g1:RO Fs.flatten w0 u1 a1.1) (a2:Int) (hH:Hold [Ac pb1 [u1,(I a1.2.1),(I a1.2.2)]] w0 Fs) (hn:Fs.flatten.Nodup) (rr:(Int × ((List UInt8) × Int × Int))) (hF:S.l1Below a1 a2=some rr) :
 Calls Tryz.prog 55 [(ptr pb1 0),(I a2)].toArray w0 fun e w'=>∃v,e=.returned v∧v=(I rr.1)∧Ctx Fs.flatten w0 w' [Ac pb1 [u1,(I rr.2.2.1),(I rr.2.2.2)]]:=by
 refine A3 Tryz.func55 z z ?_
 have hC0:=B6 hH hn
 unfold S.l1Below at hF
 refine Ad<|Af z z<|Ab<|AA<|Ad<|Ae z z<|CE z z z<|Ab<|AL z (fun hc1=>?_) (fun hc1=>?_)
 ·replace hF:=AD hF hc1
  refine Ad<|Af z z<|Ab<|AK<|A2<|?_
  obtain rfl:=Aa hF
  exact AB z z<|⟨_,z,z,hC0⟩
 replace hF:=AE hF hc1
 refine AM<|Av<|AA<|Ad<|Ae z z<|CE z z z<|Ab<|AL z (fun hc2=>?_) (fun hc2=>?_)
 ·replace hF:=AD hF hc2
  refine Ad<|Ae z z<|be hF fun x1 hr1 hF=>?_
  obtain ⟨Fs1,hH1,hn1,hF1,hO1,hb1⟩:=AS (As:=[]) [Ac pb1 [u1,(I a1.2.1),(I a1.2.2)]] hC0
  refine AJ CC z z (c_S_l1Byte pb1 (a1.1,a1.2.1,a1.2.2) u1 (AX g1 hC0.keep hF1) hH1 hn1 x1 hr1) ?_
  rintro _ w1 ⟨rfl,hq2⟩
  have hC1:Ctx Fs.flatten w0 w1 [Ac pb1 [u1,(I x1.2.2.1),(I x1.2.2.2)]]:=hb1 _ _ hq2
  refine Ae z z<|be hF fun _ hx1 hF=>WL_rem (nz_some hx1) z z z<|Af z z<|Ab<|AK<|A2<|?_
  obtain rfl:=Aa hF
  exact AB z z<|⟨_,z,z,hC1⟩
 replace hF:=AE hF hc2
 refine AM<|Av<|Ad<|Ae z z<|be hF fun x2 hr2 hF=>?_
 obtain ⟨Fs2,hH2,hn2,hF2,hO2,hb2⟩:=AS (As:=[]) [Ac pb1 [u1,(I a1.2.1),(I a1.2.2)]] hC0
 refine AJ CC z z (c_S_l1Byte pb1 (a1.1,a1.2.1,a1.2.2) u1 (AX g1 hC0.keep hF2) hH2 hn2 x2 hr2) ?_
 rintro _ w2 ⟨rfl,hq4⟩
 have hC2:Ctx Fs.flatten w0 w2 [Ac pb1 [u1,(I x2.2.2.1),(I x2.2.2.2)]]:=hb2 _ _ hq4
 refine Af z z<|Ab<|Ad<|Ae z z<|be hF fun x3 hr3 hF=>?_
 obtain ⟨Fs3,hH3,hn3,hF3,hO3,hb3⟩:=AS (As:=[]) [Ac pb1 [u1,(I x2.2.2.1),(I x2.2.2.2)]] hC2
 refine AJ CC z z (c_S_l1Byte pb1 (a1.1,x2.2.2.1,x2.2.2.2) u1 (AX g1 hC2.keep hF3) hH3 hn3 x3 hr3) ?_
 rintro _ w3 ⟨rfl,hq5⟩
 have hC3:Ctx Fs.flatten w0 w3 [Ac pb1 [u1,(I x3.2.2.1),(I x3.2.2.2)]]:=hb3 _ _ hq5
 refine Af z z<|Ab<|Ad<|Ae z z<|be hF fun x4 hr4 hF=>?_
 obtain ⟨Fs4,hH4,hn4,hF4,hO4,hb4⟩:=AS (As:=[]) [Ac pb1 [u1,(I x3.2.2.1),(I x3.2.2.2)]] hC3
 refine AJ CC z z (c_S_l1Byte pb1 (a1.1,x3.2.2.1,x3.2.2.2) u1 (AX g1 hC3.keep hF4) hH4 hn4 x4 hr4) ?_
 rintro _ w4 ⟨rfl,hq6⟩
 have hC4:Ctx Fs.flatten w0 w4 [Ac pb1 [u1,(I x4.2.2.1),(I x4.2.2.2)]]:=hb4 _ _ hq6
 refine Af z z<|Ab<|Ad<|Ae z z<|be hF fun x5 hr5 hF=>?_
 obtain ⟨Fs5,hH5,hn5,hF5,hO5,hb5⟩:=AS (As:=[]) [Ac pb1 [u1,(I x4.2.2.1),(I x4.2.2.2)]] hC4
 refine AJ CC z z (c_S_l1Byte pb1 (a1.1,x4.2.2.1,x4.2.2.2) u1 (AX g1 hC4.keep hF5) hH5 hn5 x5 hr5) ?_
 rintro _ w5 ⟨rfl,hq7⟩
 have hC5:Ctx Fs.flatten w0 w5 [Ac pb1 [u1,(I x5.2.2.1),(I x5.2.2.2)]]:=hb5 _ _ hq7
 refine Af z z<|Ab<|Ad<|Ae z z<|WL_mul z z z<|Ae z z<|WL_mul z z z<|Bw z z z<|Ae z z<|WL_mul z z z<|Bw z z z<|Ae z z<|Bw z z z<|Ae z z<|be hF fun _ hx2 hF=>WL_rem (nz_some hx2) z z z<|Af z z<|Ab<|AK<|?_
 obtain rfl:=Aa hF
 exact AB z z<|⟨_,z,z,hC5⟩
theorem c_S_l1Once {w0:World} {Fs:List (List Nat)} (pb1:Nat) (a1:((List UInt8) × Int × Int)) (u1:Value) (g1:RO Fs.flatten w0 u1 a1.1) (a2:Int) (hH:Hold [Ac pb1 [u1,(I a1.2.1),(I a1.2.2)]] w0 Fs) (hn:Fs.flatten.Nodup) (rr:(Bool × ((List UInt8) × Int × Int))) (hF:S.l1Once a1 a2=some rr) :
 Calls Tryz.prog 29 [(ptr pb1 0),(I a2)].toArray w0 fun e w'=>∃v,e=.returned v∧v=(.bool rr.1)∧Ctx Fs.flatten w0 w' [Ac pb1 [u1,(I rr.2.2.1),(I rr.2.2.2)]]:=by
 refine A3 Tryz.func29 z z ?_
 have hC0:=B6 hH hn
 unfold S.l1Once at hF
 refine Ad<|Af z z<|Ab<|Ad<|Ae z z<|Ae z z<|be hF fun x1 hr1 hF=>?_
 obtain ⟨Fs1,hH1,hn1,hF1,hO1,hb1⟩:=AS (As:=[]) [Ac pb1 [u1,(I a1.2.1),(I a1.2.2)]] hC0
 refine AJ B0 z z (c_S_l1Below pb1 (a1.1,a1.2.1,a1.2.2) u1 (AX g1 hC0.keep hF1) a2 hH1 hn1 x1 hr1) ?_
 rintro _ w1 ⟨rfl,hq1⟩
 have hC1:Ctx Fs.flatten w0 w1 [Ac pb1 [u1,(I x1.2.2.1),(I x1.2.2.2)]]:=hb1 _ _ hq1
 refine BP z z z<|Af z z<|Ab<|AK<|?_
 obtain rfl:=Aa hF
 exact AB z z<|⟨_,z,z,hC1⟩
theorem c_S_l1PickInt {w0:World} {Fs:List (List Nat)} (pb1:Nat) (a1:((List UInt8) × Int × Int)) (u1:Value) (g1:RO Fs.flatten w0 u1 a1.1) (a2:(List Int)) (u2:Value) (g2:RO Fs.flatten w0 u2 a2) (hH:Hold [Ac pb1 [u1,(I a1.2.1),(I a1.2.2)]] w0 Fs) (hn:Fs.flatten.Nodup) (rr:(Int × ((List UInt8) × Int × Int))) (hF:S.l1PickInt a1 a2=some rr) :
 Calls Tryz.prog 63 [(ptr pb1 0),u2].toArray w0 fun e w'=>∃v,e=.returned v∧v=(I rr.1)∧Ctx Fs.flatten w0 w' [Ac pb1 [u1,(I rr.2.2.1),(I rr.2.2.2)]]:=by
 refine A3 Tryz.func63 z z ?_
 have hC0:=B6 hH hn
 unfold S.l1PickInt at hF
 refine Ad<|Af z z<|Ab<|Ad<|Ae z z<|Ae z z<|Ae z z<|Bo Ap g2 z z<|be hF fun x1 hr1 hF=>?_
 obtain ⟨Fs1,hH1,hn1,hF1,hO1,hb1⟩:=AS (As:=[]) [Ac pb1 [u1,(I a1.2.1),(I a1.2.2)]] hC0
 refine AJ B0 z z (c_S_l1Below pb1 (a1.1,a1.2.1,a1.2.2) u1 (AX g1 hC0.keep hF1) (List.length a2:Int) hH1 hn1 x1 hr1) ?_
 rintro _ w1 ⟨rfl,hq1⟩
 have hC1:Ctx Fs.flatten w0 w1 [Ac pb1 [u1,(I x1.2.2.1),(I x1.2.2.2)]]:=hb1 _ _ hq1
 refine be hF fun x2 hx1 hF=>AZ Ap ty3 g2 hx1 z z z fun b1 o1 h1=>Be ty3 h1 hC1.keep z z fun v1 h2=>?_
 obtain rfl:=BJ h2
 refine Af z z<|Ab<|AK<|?_
 obtain rfl:=Aa hF
 exact AB z z<|⟨_,z,z,hC1⟩
theorem c_S_l2Schema {w0:World} {Fs:List (List Nat)} (pb1:Nat) (a1:((List UInt8) × Int × Int)) (u1:Value) (g1:RO Fs.flatten w0 u1 a1.1) (hH:Hold [Ac pb1 [u1,(I a1.2.1),(I a1.2.2)]] w0 Fs) (hn:Fs.flatten.Nodup) (rr:((List Int) × ((List UInt8) × Int × Int))) (hF:S.l2Schema a1=some rr) :
 Calls Tryz.prog 87 [(ptr pb1 0)].toArray w0 fun e w'=>∃v,e=.returned v∧∃q0:Value,v=q0∧Ctx Fs.flatten w0 w' [Ag q0 (rr.1:(List Int)),Ac pb1 [u1,(I rr.2.2.1),(I rr.2.2.2)]]:=by
 refine A3 Tryz.func87 z z ?_
 have hC0:=B6 hH hn
 unfold S.l2Schema at hF
 refine Ad<|Af z z<|Ab<|Ad<|AN (vs:=[]) hC0 Ap ty3 z z z z (by simp) z z fun b1 w1 hC1 hB1=>?_
 have hC2:=hC1.row0 (α:=Int)
 have hC3:=hC2.front 1 z
 dsimp only [List.eraseIdx,List.cons_append,List.nil_append,List.append_nil] at hC3
 have hC4:Ctx Fs.flatten w0 w1 (Ag (.slice (some ⟨b1,0,none⟩) 0 0) (([]:List Int):List Int)::[Ac pb1 [u1,(I a1.2.1),(I a1.2.2)]]):=hC3.rowOwn (by simp [maxLen])
 refine Af z z<|Ab<|AA<|Ad<|Ae z z<|be hF fun x1 hr1 hF=>have hC5:=hC4.f1;?_
 obtain ⟨Fs1,hH1,hn1,hF1,hO1,hb1⟩:=AS (As:=[Ag (.slice (some ⟨b1,0,none⟩) 0 0) (([]:List Int):(List Int))]) [Ac pb1 [u1,(I a1.2.1),(I a1.2.2)]] hC5
 refine AJ B0 z z (c_S_l1Below pb1 (a1.1,a1.2.1,a1.2.2) u1 (AX g1 hC5.keep hF1) 3 hH1 hn1 x1 hr1) ?_
 rintro _ w2 ⟨rfl,hq1⟩
 have hC6:Ctx Fs.flatten w0 w2 [Ac pb1 [u1,(I x1.2.2.1),(I x1.2.2.2)],Ag (.slice (some ⟨b1,0,none⟩) 0 0) (([]:List Int):(List Int))]:=hb1 _ _ hq1
 refine Bw z z z<|Af z z<|Ab<|be hF fun r1 hr2 hF=>Bx (fun l w=>∃x6:Int,∃x7:Int,∃v2:Value,∃x8:(List Int),(x6,x7,x8)=r1∧l=[(3,v2)]∧Ctx Fs.flatten w0 w [Ac pb1 [u1,(I x6),(I x7)],Ag v2 (x8:(List Int))]) ?_ ?_
 ·refine Bb<|wS (l':=[(0,(ptr pb1 0)),(3,(.slice (some ⟨b1,0,none⟩) 0 0)),(4,(I (w64 (1+x1.1))))]) ⟨z,z,z,Ak⟩<|BE (fun k l w=>∃x2:Int,∃x3:Int,∃v1:Value,∃x4:(List Int),∃x5:Int,l=[(0,(ptr pb1 0)),(3,v1),(4,(I x5))]∧Ctx Fs.flatten w0 w [Ac pb1 [u1,(I x2),(I x3)],Ag v1 (x4:(List Int))]∧S.l2Schema_l1 a1 k x2 x3 x4 x5=some r1) FUEL ⟨x1.2.2.1,x1.2.2.2,(.slice (some ⟨b1,0,none⟩) 0 0),([]:List Int),w64 (1+x1.1),z,hC6,hr2⟩<|?_
  clear hr2
  rintro k1 _ w3 ⟨x2,x3,v1,x4,x5,rfl,hC7,hL1⟩
  cases k1 with
  | zero=>rw [S.l2Schema_l1] at hL1; cases hL1
  | succ k1 =>
   rw [S.l2Schema_l1] at hL1
   refine AA<|Ad<|Ae z z<|Cr z z z<|Ab<|AL z (fun hc1=>?_) (fun hc1=>?_)
   ·replace hL1:=AD hL1 hc1
    refine AM<|Av<|AA<|Bb<|Ad<|Ae z z<|be hL1 fun x9 hr3 hL1=>?_
    obtain ⟨Fs2,hH2,hn2,hF2,hO2,hb2⟩:=AS (As:=[Ag v1 (x4:(List Int))]) [Ac pb1 [u1,(I x2),(I x3)]] hC7
    refine AJ B0 z z (c_S_l1Below pb1 (a1.1,x2,x3) u1 (AX g1 hC7.keep hF2) 2 hH2 hn2 x9 hr3) ?_
    rintro _ w4 ⟨rfl,hq2⟩
    have hC8:Ctx Fs.flatten w0 w4 [Ac pb1 [u1,(I x9.2.2.1),(I x9.2.2.2)],Ag v1 (x4:(List Int))]:=hb2 _ _ hq2
    refine Bw z z z<|Af z z<|Ab<|AA<|Ad<|Ae z z<|be hL1 fun x10 hr4 hL1=>?_
    obtain ⟨Fs3,hH3,hn3,hF3,hO3,hb3⟩:=AS (As:=[Ag v1 (x4:(List Int))]) [Ac pb1 [u1,(I x9.2.2.1),(I x9.2.2.2)]] hC8
    refine AJ Ct z z (c_S_l1Once pb1 (a1.1,x9.2.2.1,x9.2.2.2) u1 (AX g1 hC8.keep hF3) 4 hH3 hn3 x10 hr4) ?_
    rintro _ w5 ⟨rfl,hq3⟩
    have hC9:Ctx Fs.flatten w0 w5 [Ac pb1 [u1,(I x10.2.2.1),(I x10.2.2.2)],Ag v1 (x4:(List Int))]:=hb3 _ _ hq3
    refine Ab<|be hL1 fun r2 hr5 hL1=>Bx (fun l w=>∃x11:Int,x11=r2∧l=[(0,(ptr pb1 0)),(3,v1),(4,(I x5)),(5,(I x11))]∧Below w5.heap.size w5 w∧Ctx Fs.flatten w0 w [Ac pb1 [u1,(I x10.2.2.1),(I x10.2.2.2)],Ag v1 (x4:(List Int))]) ?_ ?_
    ·refine AL z (fun hc2=>?_) (fun hc2=>?_)
     ·replace hr5:=AD hr5 hc2
      refine Bt<|Af z z<|Ab<|?_
      obtain rfl:=Aa hr5
      exact Ay (l':=[(0,(ptr pb1 0)),(3,v1),(4,(I x5)),(5,(I 3))]) ⟨z,z,z,z,Ak⟩<|⟨3,z,z,(An _ _),hC9⟩
     replace hr5:=AE hr5 hc2
     refine AM ?_
     obtain rfl:=Aa hr5
     exact Ay (l':=[(0,(ptr pb1 0)),(3,v1),(4,(I x5)),(5,(I (w64 (1+x9.1))))]) ⟨z,z,z,z,Ak⟩<|⟨w64 (1+x9.1),z,z,(An _ _),hC9⟩
    rintro l2 _ w6 hs2 ⟨x11,rfl,rfl,hB3,hC10⟩
    try dsimp only at hL1
    refine Bm hs2 ?_
    clear hs2
    refine Bt<|Ae z z<|Ae z z<|AN (vs:=[(I x11)]) hC10 Ap ty3 z z z z (fac z<|fa0) z z fun b2 w7 hC11 hB4=>?_
    have hC12:=hC11.row0 (α:=Int)
    have hC13:=hC12.triv (Bv (x11))
    have hC14:=hC13.row1
    have hC15:=hC14.front 1 z
    dsimp only [List.eraseIdx,List.cons_append,List.nil_append,List.append_nil] at hC15
    have hC16:Ctx Fs.flatten w0 w7 (Ag (.slice (some ⟨b2,0,none⟩) 1 1) ([x11]:List Int)::[Ac pb1 [u1,(I x10.2.2.1),(I x10.2.2.2)],Ag v1 (x4:(List Int))]):=hC15.rowOwn (by simp [maxLen])
    refine be hL1 fun x12 hx1 hL1=>BN (α:=Int) hC16 2 z (hC16.ro 0 z) (B5 _ _) Ap ty3 z hx1 z z z fun v3 w9 hC17=>?_
    try dsimp only [List.set] at hC17
    exact Af z z<|Ab<|Bg<|Av<|Bt<|Ae z z<|BV z z z<|Af z z<|Ab<|have hC18:=hC17.f2;have hC19:=hC18.f2;have hC20:=hC19.h2;Ay (l':=[(0,(ptr pb1 0)),(3,v3),(4,(I (w64 (x5 - 1))))]) ⟨z,z,z,Ak⟩<|⟨k1,AO _,x10.2.2.1,x10.2.2.2,v3,x12,w64 (x5 - 1),z,hC20,hL1⟩
   replace hL1:=AE hL1 hc1
   refine BF (AW (AW (B4 ?_)))
   obtain rfl:=Aa hL1
   exact Ay (l':=[(3,v1)]) ⟨z,Ak⟩<|⟨x2,x3,v1,x4,z,z,hC7⟩
 rintro l3 _ w10 hs3 ⟨x6,x7,v2,x8,rfl,rfl,hC21⟩
 try dsimp only at hF
 refine Bm hs3 ?_
 clear hs3
 refine Ad<|Ae z z<|Af z z<|Ab<|AK<|?_
 obtain rfl:=Aa hF
 exact AB z z<|have hC22:=hC21.f1;⟨_,z,_,z,hC22⟩
theorem c_S_l5Method {w0:World} {Fs:List (List Nat)} (pb1:Nat) (a1:((List UInt8) × Int × Int)) (u1:Value) (g1:RO Fs.flatten w0 u1 a1.1) (a2:(List Int)) (u2:Value) (g2:RO Fs.flatten w0 u2 a2) (hH:Hold [Ac pb1 [u1,(I a1.2.1),(I a1.2.2)]] w0 Fs) (hn:Fs.flatten.Nodup) (rr:((Int × (List Int) × Int × Int × Int) × ((List UInt8) × Int × Int))) (hF:S.l5Method a1 a2=some rr) :
 Calls Tryz.prog 104 [(ptr pb1 0),u2].toArray w0 fun e w'=>∃v,e=.returned v∧∃q0:Value,v=q0∧Ctx Fs.flatten w0 w' [Ag q0 (rr.1:(Int × (List Int) × Int × Int × Int)),Ac pb1 [u1,(I rr.2.2.1),(I rr.2.2.2)]]:=by
 refine A3 Tryz.func104 z z ?_
 have hC0:=B6 hH hn
 unfold S.l5Method at hF
 refine Ad<|Bd hC0 zero93 z z fun b1 w1 hC1 hB1 hN1=>Ab<|Ad<|Ae z z<|Ae z z<|Bo Ap g2 z z<|be hF fun x1 hr1 hF=>have hC2:=hC1.f1;?_
 obtain ⟨Fs1,hH1,hn1,hF1,hO1,hb1⟩:=AS (As:=[Ac b1 [(I 0),(.slice none 0 0),(I 0),(I 0),(I 0)]]) [Ac pb1 [u1,(I a1.2.1),(I a1.2.2)]] hC2
 refine AJ B0 z z (c_S_l1Below pb1 (a1.1,a1.2.1,a1.2.2) u1 (AX g1 hC2.keep hF1) (List.length a2:Int) hH1 hn1 x1 hr1) ?_
 rintro _ w2 ⟨rfl,hq1⟩
 have hC3:Ctx Fs.flatten w0 w2 [Ac pb1 [u1,(I x1.2.2.1),(I x1.2.2.2)],Ac b1 [(I 0),(.slice none 0 0),(I 0),(I 0),(I 0)]]:=hb1 _ _ hq1
 refine Ae z z<|AN (vs:=[(I 0),(I 0),(I 0),(I 1),(I 2)]) hC3 Ap ty3 z z z z (fac z<|fac z<|fac z<|fac z<|fac z<|fa0) z z fun b2 w3 hC4 hB2=>?_
 have hC5:=hC4.row0 (α:=Int)
 have hC6:=hC5.triv (Bv (2))
 have hC7:=hC6.row1
 have hC8:=hC7.triv (Bv (1))
 have hC9:=hC8.row1
 have hC10:=hC9.triv (Bv (0))
 have hC11:=hC10.row1
 have hC12:=hC11.triv (Bv (0))
 have hC13:=hC12.row1
 have hC14:=hC13.triv (Bv (0))
 have hC15:=hC14.row1
 have hC16:=hC15.front 1 z
 dsimp only [List.eraseIdx,List.cons_append,List.nil_append,List.append_nil] at hC16
 have hC17:Ctx Fs.flatten w0 w3 (Ag (.slice (some ⟨b2,0,none⟩) 5 5) ([0,0,0,1,2]:List Int)::[Ac pb1 [u1,(I x1.2.2.1),(I x1.2.2.2)],Ac b1 [(I 0),(.slice none 0 0),(I 0),(I 0),(I 0)]]):=hC16.rowOwn (by simp [maxLen])
 refine be hF fun x2 hr2 hF=>have hC18:=hC17.f1;?_
 obtain ⟨Fs2,hH2,hn2,hF2,hO2,hb2⟩:=AS (As:=[Ag (.slice (some ⟨b2,0,none⟩) 5 5) ([0,0,0,1,2]:(List Int)),Ac b1 [(I 0),(.slice none 0 0),(I 0),(I 0),(I 0)]]) [Ac pb1 [u1,(I x1.2.2.1),(I x1.2.2.2)]] hC18
 refine AJ BY z z (c_S_l1PickInt pb1 (a1.1,x1.2.2.1,x1.2.2.2) u1 (AX g1 hC18.keep hF2) ([0,0,0,1,2]) (.slice (some ⟨b2,0,none⟩) 5 5) (hO2 0 _ _ _ z) hH2 hn2 x2 hr2) ?_
 rintro _ w4 ⟨rfl,hq2⟩
 have hC19:Ctx Fs.flatten w0 w4 [Ac pb1 [u1,(I x2.2.2.1),(I x2.2.2.2)],Ag (.slice (some ⟨b2,0,none⟩) 5 5) ([0,0,0,1,2]:(List Int)),Ac b1 [(I 0),(.slice none 0 0),(I 0),(I 0),(I 0)]]:=hb2 _ _ hq2
 refine Ae z z<|be hF fun x3 hr3 hF=>?_
 obtain ⟨Fs3,hH3,hn3,hF3,hO3,hb3⟩:=AS (As:=[Ag (.slice (some ⟨b2,0,none⟩) 5 5) ([0,0,0,1,2]:(List Int)),Ac b1 [(I 0),(.slice none 0 0),(I 0),(I 0),(I 0)]]) [Ac pb1 [u1,(I x2.2.2.1),(I x2.2.2.2)]] hC19
 refine AJ B0 z z (c_S_l1Below pb1 (a1.1,x2.2.2.1,x2.2.2.2) u1 (AX g1 hC19.keep hF3) 5 hH3 hn3 x3 hr3) ?_
 rintro _ w5 ⟨rfl,hq3⟩
 have hC20:Ctx Fs.flatten w0 w5 [Ac pb1 [u1,(I x3.2.2.1),(I x3.2.2.2)],Ag (.slice (some ⟨b2,0,none⟩) 5 5) ([0,0,0,1,2]:(List Int)),Ac b1 [(I 0),(.slice none 0 0),(I 0),(I 0),(I 0)]]:=hb3 _ _ hq3
 refine Ae z z<|be hF fun x4 hr4 hF=>?_
 obtain ⟨Fs4,hH4,hn4,hF4,hO4,hb4⟩:=AS (As:=[Ag (.slice (some ⟨b2,0,none⟩) 5 5) ([0,0,0,1,2]:(List Int)),Ac b1 [(I 0),(.slice none 0 0),(I 0),(I 0),(I 0)]]) [Ac pb1 [u1,(I x3.2.2.1),(I x3.2.2.2)]] hC20
 refine AJ B0 z z (c_S_l1Below pb1 (a1.1,x3.2.2.1,x3.2.2.2) u1 (AX g1 hC20.keep hF4) 6 hH4 hn4 x4 hr4) ?_
 rintro _ w6 ⟨rfl,hq4⟩
 have hC21:Ctx Fs.flatten w0 w6 [Ac pb1 [u1,(I x4.2.2.1),(I x4.2.2.2)],Ag (.slice (some ⟨b2,0,none⟩) 5 5) ([0,0,0,1,2]:(List Int)),Ac b1 [(I 0),(.slice none 0 0),(I 0),(I 0),(I 0)]]:=hb4 _ _ hq4
 refine Bw z z z<|BD (vs:=[(0,(I x1.1)),(2,(I x2.1)),(3,(I x3.1)),(4,(I (w64 (1+x4.1))))]) z z z (built93_0_2_3_4 z z z z)<|Bd hC21 zero93 z z fun b3 w7 hC22 hB3 hN2=>Aj (cs':=[(I x1.1),(.slice none 0 0),(I x2.1),(I x3.1),(I (w64 (1+x4.1)))]) (new:=[(I x1.1),(.slice none 0 0),(I x2.1),(I x3.1),(I (w64 (1+x4.1)))]) hC22 0 z z (fac z<|fac z<|fac z<|fac z<|fac z<|fa0) z BC z z fun w9 hC23 hKp1=>?_
 try dsimp only [List.set] at hC23
 have hk1:=Ar (Al hB3) hN2 hKp1
 refine Ab<|AA<|Ad<|Af z z<|Ab<|be hF fun r1 hr5 hF=>Bx (fun l w=>∃x13:Int,∃v2:Value,∃x14:(List Int),∃x15:Int,∃x16:Int,∃x17:Int,∃x18:Int,∃x19:Int,(x13,x14,x15,x16,x17,x18,x19)=r1∧l=[(4,(ptr b1 0)),(5,(ptr b3 0))]∧Ctx Fs.flatten w0 w [Ag v2 (x14:(List Int)),Ac b3 [(I x13),v2,(I x15),(I x16),(I x17)],Ac pb1 [u1,(I x18),(I x19)],Ac b1 [(I 0),(.slice none 0 0),(I 0),(I 0),(I 0)]]) ?_ ?_
 ·refine Bb ?_
  have hC45:=hC23.triv (nil_val (α:=Int))
  have hC46:=hC45.f4
  have hC47:=hC46.f3
  have hC48:=hC47.f3
  have hC49:=hC48.f3
  have hC50:=hC49.h4
  refine wS (l':=[(0,(ptr pb1 0)),(1,u2),(4,(ptr b1 0)),(5,(ptr b3 0)),(6,(I 0))]) ⟨z,z,z,z,z,Ak⟩<|BE (fun k l w=>∃x5:Int,∃v1:Value,∃x6:(List Int),∃x7:Int,∃x8:Int,∃x9:Int,∃x10:Int,∃x11:Int,∃x12:Int,l=[(0,(ptr pb1 0)),(1,u2),(4,(ptr b1 0)),(5,(ptr b3 0)),(6,(I x12))]∧Ctx Fs.flatten w0 w [Ag v1 (x6:(List Int)),Ac b3 [(I x5),v1,(I x7),(I x8),(I x9)],Ac pb1 [u1,(I x10),(I x11)],Ac b1 [(I 0),(.slice none 0 0),(I 0),(I 0),(I 0)]]∧S.l5Method_l1 a2 a1 k x5 x6 x7 x8 x9 x10 x11 x12=some r1) FUEL ⟨x1.1,(.slice none 0 0),[],x2.1,x3.1,w64 (1+x4.1),x4.2.2.1,x4.2.2.2,0,z,hC50,hr5⟩<|?_
  clear hr5
  rintro k1 _ w10 ⟨x5,v1,x6,x7,x8,x9,x10,x11,x12,rfl,hC24,hL1⟩
  cases k1 with
  | zero=>rw [S.l5Method_l1] at hL1; cases hL1
  | succ k1 =>
   rw [S.l5Method_l1] at hL1
   refine AA<|Ad<|Ae z z<|Ae z z<|fd AP Ax z z z z<|Aq hC24 1 z z A6 z z<|be hL1 fun x20 hx1 hL1=>AZ Ap ty3 g2 hx1 z z z fun b4 o1 h1=>Be ty3 h1 hC24.keep z z fun v3 h2=>?_
   obtain rfl:=BJ h2
   refine B8 z z z<|Ab<|AL z (fun hc1=>?_) (fun hc1=>?_)
   ·replace hL1:=AD hL1 hc1
    refine AM<|Av<|AA<|Bb<|Ad<|Ae z z<|be hL1 fun x21 hr6 hL1=>have hC25:=hC24.f2;?_
    obtain ⟨Fs5,hH5,hn5,hF5,hO5,hb5⟩:=AS (As:=[Ag v1 (x6:(List Int)),Ac b3 [(I x5),v1,(I x7),(I x8),(I x9)],Ac b1 [(I 0),(.slice none 0 0),(I 0),(I 0),(I 0)]]) [Ac pb1 [u1,(I x10),(I x11)]] hC25
    refine AJ Ct z z (c_S_l1Once pb1 (a1.1,x10,x11) u1 (AX g1 hC25.keep hF5) 3 hH5 hn5 x21 hr6) ?_
    rintro _ w11 ⟨rfl,hq5⟩
    have hC26:Ctx Fs.flatten w0 w11 [Ac pb1 [u1,(I x21.2.2.1),(I x21.2.2.2)],Ag v1 (x6:(List Int)),Ac b3 [(I x5),v1,(I x7),(I x8),(I x9)],Ac b1 [(I 0),(.slice none 0 0),(I 0),(I 0),(I 0)]]:=hb5 _ _ hq5
    refine Ab<|be hL1 fun r2 hr7 hL1=>Bx (fun l w=>∃x22:Int,∃v4:Value,∃x23:(List Int),∃x24:Int,∃x25:Int,∃x26:Int,(x22,x23,x24,x25,x26)=r2∧l=[(0,(ptr pb1 0)),(1,u2),(4,(ptr b1 0)),(5,(ptr b3 0)),(6,(I x12))]∧Ctx Fs.flatten w0 w [Ac pb1 [u1,(I x21.2.2.1),(I x21.2.2.2)],Ag v4 (x23:(List Int)),Ac b3 [(I x22),v4,(I x24),(I x25),(I x26)],Ac b1 [(I 0),(.slice none 0 0),(I 0),(I 0),(I 0)]]) ?_ ?_
    ·refine AL z (fun hc2=>?_) (fun hc2=>?_)
     ·replace hr7:=AD hr7 hc2
      refine Bt<|fd AP A4 z z z z<|Aq hC26 2 z z AU z z<|Ae z z<|AN (vs:=[(I x12)]) hC26 Ap ty3 z z z z (fac z<|fa0) z z fun b5 w13 hC28 hB6=>?_
      have hC29:=hC28.row0 (α:=Int)
      have hC30:=hC29.triv (Bv (x12))
      have hC31:=hC30.row1
      have hC32:=hC31.front 1 z
      dsimp only [List.eraseIdx,List.cons_append,List.nil_append,List.append_nil] at hC32
      have hC33:Ctx Fs.flatten w0 w13 (Ag (.slice (some ⟨b5,0,none⟩) 1 1) ([x12]:List Int)::[Ac pb1 [u1,(I x21.2.2.1),(I x21.2.2.2)],Ag v1 (x6:(List Int)),Ac b3 [(I x5),v1,(I x7),(I x8),(I x9)],Ac b1 [(I 0),(.slice none 0 0),(I 0),(I 0),(I 0)]]):=hC32.rowOwn (by simp [maxLen])
      refine be hr7 fun x27 hx2 hr7=>BN (α:=Int) hC33 2 z (hC33.ro 0 z) (B5 _ _) Ap ty3 z hx2 z z z fun v5 w14 hC34=>?_
      try dsimp only [List.set] at hC34
      refine fd AP A4 z z z z<|Bc (cs':=[(I x5),v5,(I x7),(I x8),(I x9)]) hC34 3 z z (AT (hC34.ro 2 z)) z A4 z z fun w15 hC35 hKp2=>?_
      try dsimp only [List.set] at hC35
      refine Ab ?_
      obtain rfl:=Aa hr7
      have hC36:=hC35.f4
      have hC37:=hC36.f4
      have hC38:=hC37.f4
      have hC39:=hC38.f4
      have hC40:=hC39.h4
      exact Ay (l':=[(0,(ptr pb1 0)),(1,u2),(4,(ptr b1 0)),(5,(ptr b3 0)),(6,(I x12))]) ⟨z,z,z,z,z,Ak⟩<|⟨x5,v5,x27,x7,x8,x9,z,z,hC40⟩
     replace hr7:=AE hr7 hc2
     refine AM ?_
     obtain rfl:=Aa hr7
     exact Ay (l':=[(0,(ptr pb1 0)),(1,u2),(4,(ptr b1 0)),(5,(ptr b3 0)),(6,(I x12))]) ⟨z,z,z,z,z,Ak⟩<|⟨x5,v1,x6,x7,x8,x9,z,z,hC26⟩
    rintro l2 _ w12 hs2 ⟨x22,v4,x23,x24,x25,x26,rfl,rfl,hC27⟩
    try dsimp only at hL1
    refine Bg<|Bm hs2<|?_
    clear hs2
    exact Bt<|Ae z z<|Bw z z z<|Af z z<|Ab<|have hC41:=hC27.f3;have hC42:=hC41.f1;have hC43:=hC42.f3;have hC44:=hC43.f3;Ay (l':=[(0,(ptr pb1 0)),(1,u2),(4,(ptr b1 0)),(5,(ptr b3 0)),(6,(I (w64 (x12+1))))]) ⟨z,z,z,z,z,Ak⟩<|⟨k1,AO _,x22,v4,x23,x24,x25,x26,x21.2.2.1,x21.2.2.2,w64 (x12+1),z,hC44,hL1⟩
   replace hL1:=AE hL1 hc1
   refine BF (AW (AW (B4 ?_)))
   obtain rfl:=Aa hL1
   exact Ay (l':=[(4,(ptr b1 0)),(5,(ptr b3 0))]) ⟨z,z,Ak⟩<|⟨x5,v1,x6,x7,x8,x9,x10,x11,z,z,hC24⟩
 rintro l3 _ w16 hs3 ⟨x13,v2,x14,x15,x16,x17,x18,x19,rfl,rfl,hC51⟩
 try dsimp only at hF
 refine Bm hs3 ?_
 clear hs3
 refine Ad<|At [(I x13),v2,(I x15),(I x16),(I x17)] hC51 1 z z z Ce BC z z<|Aj (cs':=[(I x13),v2,(I x15),(I x16),(I x17)]) (new:=[(I x13),v2,(I x15),(I x16),(I x17)]) hC51 3 z z (fac z<|fac (AT (hC51.ro 0 z))<|fac z<|fac z<|fac z<|fa0) z BC z z fun w17 hC52 hKp3=>?_
 try dsimp only [List.set] at hC52
 refine Ab (AK ?_)
 obtain rfl:=Aa hF
 refine BR z (rv_cell_agg (cs':=[(I x13),v2,(I x15),(I x16),(I x17)]) hC52 (i:=3) z z z Ce BC z)<|have hC53:=hC52.f2;have hC55:=hC53.f1;?_
 have hC54:=own_st93 x13 v2 x14 x15 x16 x17 hC55
 have hC56:=hC54.h2
 exact ⟨_,z,_,z,hC56⟩
theorem c_S_l5Methods {w0:World} {Fs:List (List Nat)} (pb1:Nat) (a1:((List UInt8) × Int × Int)) (u1:Value) (g1:RO Fs.flatten w0 u1 a1.1) (a2:(List Int)) (u2:Value) (g2:RO Fs.flatten w0 u2 a2) (hH:Hold [Ac pb1 [u1,(I a1.2.1),(I a1.2.2)]] w0 Fs) (hn:Fs.flatten.Nodup) (rr:((List (Int × (List Int) × Int × Int × Int)) × ((List UInt8) × Int × Int))) (hF:S.l5Methods a1 a2=some rr) :
 Calls Tryz.prog 88 [(ptr pb1 0),u2].toArray w0 fun e w'=>∃v,e=.returned v∧∃q0:Value,v=q0∧Ctx Fs.flatten w0 w' [Ag q0 (rr.1:(List (Int × (List Int) × Int × Int × Int))),Ac pb1 [u1,(I rr.2.2.1),(I rr.2.2.2)]]:=by
 refine A3 Tryz.func88 z z ?_
 have hC0:=B6 hH hn
 unfold S.l5Methods at hF
 refine Ad<|Af z z<|Ab<|Ad<|AN (vs:=[]) hC0 Bi ty93 z z z z (by simp) z z fun b1 w1 hC1 hB1=>?_
 have hC2:=hC1.row0 (α:=(Int × (List Int) × Int × Int × Int))
 have hC3:=hC2.front 1 z
 dsimp only [List.eraseIdx,List.cons_append,List.nil_append,List.append_nil] at hC3
 have hC4:Ctx Fs.flatten w0 w1 (Ag (.slice (some ⟨b1,0,none⟩) 0 0) (([]:List (Int × (List Int) × Int × Int × Int)):List (Int × (List Int) × Int × Int × Int))::[Ac pb1 [u1,(I a1.2.1),(I a1.2.2)]]):=hC3.rowOwn (by simp [maxLen])
 refine Af z z<|Ab<|AA<|Ad<|Ae z z<|be hF fun x1 hr1 hF=>have hC5:=hC4.f1;?_
 obtain ⟨Fs1,hH1,hn1,hF1,hO1,hb1⟩:=AS (As:=[Ag (.slice (some ⟨b1,0,none⟩) 0 0) (([]:List (Int × (List Int) × Int × Int × Int)):(List (Int × (List Int) × Int × Int × Int)))]) [Ac pb1 [u1,(I a1.2.1),(I a1.2.2)]] hC5
 refine AJ B0 z z (c_S_l1Below pb1 (a1.1,a1.2.1,a1.2.2) u1 (AX g1 hC5.keep hF1) 4 hH1 hn1 x1 hr1) ?_
 rintro _ w2 ⟨rfl,hq1⟩
 have hC6:Ctx Fs.flatten w0 w2 [Ac pb1 [u1,(I x1.2.2.1),(I x1.2.2.2)],Ag (.slice (some ⟨b1,0,none⟩) 0 0) (([]:List (Int × (List Int) × Int × Int × Int)):(List (Int × (List Int) × Int × Int × Int)))]:=hb1 _ _ hq1
 refine Bw z z z<|Af z z<|Ab<|be hF fun r1 hr2 hF=>Bx (fun l w=>∃x6:Int,∃x7:Int,∃v2:Value,∃x8:(List (Int × (List Int) × Int × Int × Int)),(x6,x7,x8)=r1∧l=[(5,v2)]∧Ctx Fs.flatten w0 w [Ac pb1 [u1,(I x6),(I x7)],Ag v2 (x8:(List (Int × (List Int) × Int × Int × Int)))]) ?_ ?_
 ·refine Bb<|wS (l':=[(0,(ptr pb1 0)),(1,u2),(5,(.slice (some ⟨b1,0,none⟩) 0 0)),(6,(I (w64 (1+x1.1))))]) ⟨z,z,z,z,Ak⟩<|BE (fun k l w=>∃x2:Int,∃x3:Int,∃v1:Value,∃x4:(List (Int × (List Int) × Int × Int × Int)),∃x5:Int,l=[(0,(ptr pb1 0)),(1,u2),(5,v1),(6,(I x5))]∧Ctx Fs.flatten w0 w [Ac pb1 [u1,(I x2),(I x3)],Ag v1 (x4:(List (Int × (List Int) × Int × Int × Int)))]∧S.l5Methods_l1 a1 a2 k x2 x3 x4 x5=some r1) FUEL ⟨x1.2.2.1,x1.2.2.2,(.slice (some ⟨b1,0,none⟩) 0 0),([]:List (Int × (List Int) × Int × Int × Int)),w64 (1+x1.1),z,hC6,hr2⟩<|?_
  clear hr2
  rintro k1 _ w3 ⟨x2,x3,v1,x4,x5,rfl,hC7,hL1⟩
  cases k1 with
  | zero=>rw [S.l5Methods_l1] at hL1; cases hL1
  | succ k1 =>
   rw [S.l5Methods_l1] at hL1
   refine AA<|Ad<|Ae z z<|Cr z z z<|Ab<|AL z (fun hc1=>?_) (fun hc1=>?_)
   ·replace hL1:=AD hL1 hc1
    refine AM<|Av<|AA<|Bb<|Ad<|Ae z z<|Ae z z<|be hL1 fun x9 hr3 hL1=>?_
    obtain ⟨Fs2,hH2,hn2,hF2,hO2,hb2⟩:=AS (As:=[Ag v1 (x4:(List (Int × (List Int) × Int × Int × Int)))]) [Ac pb1 [u1,(I x2),(I x3)]] hC7
    refine AJ Tryz.call104 z z (c_S_l5Method pb1 (a1.1,x2,x3) u1 (AX g1 hC7.keep hF2) a2 u2 (AX g2 hC7.keep hF2) hH2 hn2 x9 hr3) ?_
    rintro v3 w4 ⟨_,rfl,hq2⟩
    have hC8:Ctx Fs.flatten w0 w4 [Ag v3 (x9.1:(Int × (List Int) × Int × Int × Int)),Ac pb1 [u1,(I x9.2.2.1),(I x9.2.2.2)],Ag v1 (x4:(List (Int × (List Int) × Int × Int × Int)))]:=hb2 _ _ hq2
    obtain ⟨v4,rfl,hC9⟩:=st93_own hC8
    refine Bd hC9 zero93 z z fun b2 w5 hC10 hB3 hN1=>Aj (cs':=[(I x9.1.1),v4,(I x9.1.2.2.1),(I x9.1.2.2.2.1),(I x9.1.2.2.2.2)]) (new:=[(I x9.1.1),v4,(I x9.1.2.2.1),(I x9.1.2.2.2.1),(I x9.1.2.2.2.2)]) hC10 0 z z (fac z<|fac (AT (hC10.ro 1 z))<|fac z<|fac z<|fac z<|fa0) z BC z z fun w6 hC11 hKp1=>?_
    try dsimp only [List.set] at hC11
    have hk1:=Ar (Al hB3) hN1 hKp1
    refine Ab<|Bt<|Ae z z<|At [(I x9.1.1),v4,(I x9.1.2.2.1),(I x9.1.2.2.2.1),(I x9.1.2.2.2.2)] hC11 0 z z z Ce BC z z<|AN (vs:=[(.agg #[(I x9.1.1),v4,(I x9.1.2.2.1),(I x9.1.2.2.2.1),(I x9.1.2.2.2.2)])]) hC11 Bi ty93 z z z z (fac z<|fa0) z z fun b3 w7 hC12 hB4=>?_
    have hC13:=hC12.row0 (α:=(Int × (List Int) × Int × Int × Int))
    have hC15:=hC13.f3
    have hC14:=own_st93 x9.1.1 v4 x9.1.2.1 x9.1.2.2.1 x9.1.2.2.2.1 x9.1.2.2.2.2 hC15
    have hC16:=hC14.row1
    have hC17:=hC16.front 1 z
    dsimp only [List.eraseIdx,List.cons_append,List.nil_append,List.append_nil] at hC17
    have hC18:Ctx Fs.flatten w0 w7 (Ag (.slice (some ⟨b3,0,none⟩) 1 1) ([(x9.1.1,x9.1.2.1,x9.1.2.2.1,x9.1.2.2.2.1,x9.1.2.2.2.2)]:List (Int × (List Int) × Int × Int × Int))::[Ac b2 [(I x9.1.1),v4,(I x9.1.2.2.1),(I x9.1.2.2.2.1),(I x9.1.2.2.2.2)],Ac pb1 [u1,(I x9.2.2.1),(I x9.2.2.2)],Ag v1 (x4:(List (Int × (List Int) × Int × Int × Int)))]):=hC17.rowOwn (by simp [maxLen])
    refine be hL1 fun x10 hx1 hL1=>BA hC18 2 z Bi ty93 z hx1 z z z fun v5 w9 hC19=>?_
    try dsimp only [List.set] at hC19
    exact Af z z<|Ab<|Bg<|Av<|Bt<|Ae z z<|BV z z z<|Af z z<|Ab<|have hC21:=hC19.f2;have hC22:=hC21.f2;have hC23:=hC22.h2;Ay (l':=[(0,(ptr pb1 0)),(1,u2),(5,v5),(6,(I (w64 (x5 - 1))))]) ⟨z,z,z,z,Ak⟩<|⟨k1,AO _,x9.2.2.1,x9.2.2.2,v5,x10,w64 (x5 - 1),z,hC23,hL1⟩
   replace hL1:=AE hL1 hc1
   refine BF (AW (AW (B4 ?_)))
   obtain rfl:=Aa hL1
   exact Ay (l':=[(5,v1)]) ⟨z,Ak⟩<|⟨x2,x3,v1,x4,z,z,hC7⟩
 rintro l2 _ w10 hs2 ⟨x6,x7,v2,x8,rfl,rfl,hC24⟩
 try dsimp only at hF
 refine Bm hs2 ?_
 clear hs2
 refine Ad<|Ae z z<|Af z z<|Ab<|AK<|?_
 obtain rfl:=Aa hF
 exact AB z z<|have hC25:=hC24.f1;⟨_,z,_,z,hC25⟩
theorem c_S_HasFact {w0:World} (a1:(List (Int × (List Int)))) (u1:Value) (g1:RO [] w0 u1 a1) (a2:(Int × (List Int))) (u2:Value) (g2:RO [] w0 u2 a2.2) (rr:Bool) (hF:S.HasFact a1 a2=some rr) :
 Calls Tryz.prog 12 [u1,(.agg #[(I a2.1),u2])].toArray w0 fun e w'=>∃v,e=.returned v∧Res w0 rr v w':=by
 refine A3 Tryz.func12 z z ?_
 have hC0:=AH w0
 unfold S.HasFact at hF
 refine Ad<|Bz (cs:=[(I a2.1),u2]) hC0 z z z fun b1 w1 hC1 hB1 hN1=>Af z z<|Ab<|AA<|Ad<|Af z z<|Ab<|be hF fun r1 hr1 hF=>Bx (fun l w=>.inl ()=r1∧l=[]∧Below w1.heap.size w1 w∧Ctx [] w0 w []) ?_ ?_
 ·refine Bb<|wS (l':=[(0,u1),(3,(ptr b1 0)),(5,(I 0))]) ⟨z,z,z,Ak⟩<|BE (fun k l w=>∃x1:Int,l=[(0,u1),(3,(ptr b1 0)),(5,(I x1))]∧Below w1.heap.size w1 w∧Ctx [] w0 w [Ac b1 [(I a2.1),u2]]∧S.HasFact_l1 a1 a2 k x1=some r1) FUEL ⟨0,z,(An _ _),hC1,hr1⟩<|?_
  clear hr1
  rintro k1 _ w2 ⟨x1,rfl,hB2,hC2,hL1⟩
  cases k1 with
  | zero=>rw [S.HasFact_l1] at hL1; cases hL1
  | succ k1 =>
   rw [S.HasFact_l1] at hL1
   refine AA<|Ad<|Ae z z<|Ae z z<|Bo Ah g1 z z<|B8 z z z<|Ab<|AL z (fun hc1=>?_) (fun hc1=>?_)
   ·replace hL1:=AD hL1 hc1
    refine AM<|Av<|AA<|Bb<|AA<|W_drawn 7 z hmix fun w3 hB3=>have hC3:=hC2.grow hB3;tm 0 z z z<|tm 1 z z z<|be hL1 fun x2 hx1 hL1=>tk 2 z z (BK Ah ty29 g1 hx1 z z)<|AZ Ah ty29 g1 hx1 z z z fun b2 o1 h1=>Ab<|wAS (l':=[(0,u1),(3,(ptr b1 0)),(5,(I x1)),(6,(I x1)),(7,u1),(8,(I (List.length a1:Int))),(9,(.bool (decide (x1 < (List.length a1:Int))))),(12,u1),(13,(I x1)),(14,(ptr b2 o1))]) ⟨z,z,z,z,z,z,z,z,z,z,Ak⟩<|Bq [⟨3,[],fun vs=>Cs [] w0 x2,[]⟩,⟨4,[],fun vs=>AR (.agg #[(I a2.1),u2]),[]⟩] [[],[]] 2 z (by kernel_rfl) (by kernel_rfl) z ?_ ?_
    ·refine Am z ?_ ?_
     ·intro w4 hB4
      refine Aw<|⟨_,z,?_⟩
      exact Be ty29 h1 (hC3.keep.then hB4) z z fun v3 h4=>Ab<|A0 (An _ _) z z ⟨z,h4⟩
     refine Am z ?_ ?_
     ·intro w4 hB4
      refine Aw<|⟨_,z,?_⟩
      exact At [(I a2.1),u2] (hC3.grow hB4) 0 z z z By AQ z z<|Ab<|A0 (An _ _) z z ⟨z,z⟩
     exact Ba
    intro w5 hB5
    refine Au z z z ?_
    rintro v3 _ ⟨rfl,h4⟩
    obtain ⟨v2,rfl,h3⟩:=BM h4
    refine Au z z z ?_
    rintro _ _ ⟨rfl,rfl⟩
    refine Bh fun hn1 hb1=>have hC4:=hC3.grow hB5;be hL1 fun x3 hr2 hL1=>oe 5 z<|ci CB z z (c_S_CompareFacts x2 v2 (h3.now hC4.keep) (a2.1,a2.2) u2 (g2.now hC4.keep) x3 hr2) fun w6 hB6=>have hC5:=hC4.grow hB6;Ab<|tk 6 z z (fl_eql z z)<|BP z z z<|Ab<|dn<|Av<|AL z (fun hc2=>?_) (fun hc2=>?_)
    ·replace hL1:=AD hL1 hc2
     refine Ad<|Af z z<|Ab<|AK<|Bu<|A2<|A2<|Bu<|A2<|A2<|?_
     obtain rfl:=Aa hL1
     dsimp only at hF
     obtain rfl:=Aa hF
     exact AB z z<|⟨_,z,Bf hC5 _⟩
    replace hL1:=AE hL1 hc2
    exact AM<|Bg<|Av<|Bt<|Ae z z<|Bw z z z<|Af z z<|Ab<|Ay (l':=[(0,u1),(3,(ptr b1 0)),(5,(I (w64 (x1+1))))]) ⟨z,z,z,Ak⟩<|⟨k1,AO _,w64 (x1+1),z,((((Al hB2).then hB3).then hB5).then hB6).below,hC5,hL1⟩
   replace hL1:=AE hL1 hc1
   refine BF (AW (AW (B4 ?_)))
   obtain rfl:=Aa hL1
   have hC6:=hC2.h0
   exact Ay (l':=[]) Ak<|⟨z,z,(Al hB2).below,hC6⟩
 rintro l2 _ w7 hs2 ⟨rfl,rfl,hB7,hC7⟩
 try dsimp only at hF
 refine Bm hs2 ?_
 clear hs2
 refine Ad<|Af z z<|Ab<|AK<|?_
 obtain rfl:=Aa hF
 exact AB z z<|⟨_,z,Bf hC7 _⟩
theorem c_S_l2One {w0:World} (a1:Int) (a2:(List Int)) (u1:Value) (g1:RO [] w0 u1 a2) (rr:(Int × (List Int))) (hF:S.l2One a1 a2=some rr) :
 Calls Tryz.prog 43 [(I a1),u1].toArray w0 fun e w'=>∃v,e=.returned v∧Res w0 rr v w':=by
 refine A3 Tryz.func43 z z ?_
 have hC0:=AH w0
 unfold S.l2One at hF
 refine Ad<|Bd hC0 zero29 z z fun b1 w1 hC1 hB1 hN1=>Ab<|Ad<|Ae z z<|AN (vs:=[]) hC1 Ap ty3 z z z z (by simp) z z fun b2 w2 hC2 hB2=>?_
 have hC3:=hC2.row0 (α:=Int)
 have hC4:=hC3.front 1 z
 dsimp only [List.eraseIdx,List.cons_append,List.nil_append,List.append_nil] at hC4
 have hC5:Ctx [] w0 w2 (Ag (.slice (some ⟨b2,0,none⟩) 0 0) (([]:List Int):List Int)::[Ac b1 [(I 0),(.slice none 0 0)]]):=hC4.rowOwn (by simp [maxLen])
 refine Ae z z<|be hF fun x1 hx1 hF=>BN (α:=Int) hC5 0 z g1 hC5.keep Ap ty3 z hx1 z z z fun v1 w3 hC6=>?_
 try dsimp only [List.set] at hC6
 refine BD (vs:=[(0,(I a1)),(1,v1)]) z z z (built29_0_1 z (Ca (hC6.ro 0 z)))<|Aj (cs':=[(I a1),v1]) (new:=[(I a1),v1]) hC6 1 z z (fac z<|fac (AT (hC6.ro 0 z))<|fa0) z AQ z z fun w4 hC7 hKp1=>?_
 try dsimp only [List.set] at hC7
 refine Ab (AK ?_)
 obtain rfl:=Aa hF
 refine BR z (rv_cell_agg (cs':=[(I a1),v1]) hC7 (i:=1) z z z By AQ z) ?_
 have hC8:=Cj a1 v1 x1 hC7
 exact ⟨_,z,Cf hC8 0 z⟩
theorem c_S_AddFact {w0:World} (a1:(List (Int × (List Int)))) (u1:Value) (g1:RO [] w0 u1 a1) (a2:(Int × (List Int))) (u2:Value) (g2:RO [] w0 u2 a2.2) (rr:(List (Int × (List Int)))) (hF:S.AddFact a1 a2=some rr) :
 Calls Tryz.prog 41 [u1,(.agg #[(I a2.1),u2])].toArray w0 fun e w'=>∃v,e=.returned v∧Res w0 rr v w':=by
 refine A3 Tryz.func41 z z ?_
 have hC0:=AH w0
 unfold S.AddFact at hF
 refine Ad<|Bz (cs:=[(I a2.1),u2]) hC0 z z z fun b1 w1 hC1 hB1 hN1=>Af z z<|Ab<|Ad<|AN (vs:=[]) hC1 Ah ty29 z z z z (by simp) z z fun b2 w2 hC2 hB2=>?_
 have hC3:=hC2.row0 (α:=(Int × (List Int)))
 have hC4:=hC3.front 1 z
 dsimp only [List.eraseIdx,List.cons_append,List.nil_append,List.append_nil] at hC4
 have hC5:Ctx [] w0 w2 (Ag (.slice (some ⟨b2,0,none⟩) 0 0) (([]:List (Int × (List Int))):List (Int × (List Int)))::[Ac b1 [(I a2.1),u2]]):=hC4.rowOwn (by simp [maxLen])
 refine Af z z<|Ab<|Ad<|Ae z z<|At [(I a2.1),u2] hC5 1 z z z By AQ z z<|be hF fun x1 hr1 hF=>cb Tryz.call12 z z (c_S_HasFact a1 u1 (g1.now hC5.keep) (a2.1,a2.2) u2 (g2.now hC5.keep) x1 hr1) fun w3 hB3=>have hC6:=hC5.grow hB3;Af z z<|Ab<|AA<|Ad<|Af z z<|Ab<|be hF fun r1 hr2 hF=>Bx (fun l w=>∃v2:Value,∃x5:(List (Int × (List Int))),∃x6:Bool,(x5,x6)=r1∧l=[(3,(ptr b1 0)),(5,v2),(6,(.bool x6))]∧Ctx [] w0 w [Ag v2 (x5:(List (Int × (List Int)))),Ac b1 [(I a2.1),u2]]) ?_ ?_
 ·refine Bb<|wS (l':=[(0,u1),(3,(ptr b1 0)),(5,(.slice (some ⟨b2,0,none⟩) 0 0)),(6,(.bool x1)),(7,(I 0))]) ⟨z,z,z,z,z,Ak⟩<|BE (fun k l w=>∃v1:Value,∃x2:(List (Int × (List Int))),∃x3:Bool,∃x4:Int,l=[(0,u1),(3,(ptr b1 0)),(5,v1),(6,(.bool x3)),(7,(I x4))]∧Ctx [] w0 w [Ag v1 (x2:(List (Int × (List Int)))),Ac b1 [(I a2.1),u2]]∧S.AddFact_l1 a1 a2 k x2 x3 x4=some r1) FUEL ⟨(.slice (some ⟨b2,0,none⟩) 0 0),([]:List (Int × (List Int))),x1,0,z,hC6,hr2⟩<|?_
  clear hr2
  rintro k1 _ w4 ⟨v1,x2,x3,x4,rfl,hC7,hL1⟩
  cases k1 with
  | zero=>rw [S.AddFact_l1] at hL1; cases hL1
  | succ k1 =>
   rw [S.AddFact_l1] at hL1
   refine AA<|Ad<|Ae z z<|Ae z z<|Bo Ah g1 z z<|B8 z z z<|Ab<|AL z (fun hc1=>?_) (fun hc1=>?_)
   ·replace hL1:=AD hL1 hc1
    refine AM<|Av<|AA<|Bb<|AA<|be hL1 fun r2 hr3 hL1=>BL (fun l w=>∃x7:Bool,x7=r2∧l=[(0,u1),(3,(ptr b1 0)),(5,v1),(6,(.bool x3)),(7,(I x4)),(28,(.bool x7))]∧Below w4.heap.size w4 w∧Ctx [] w0 w [Ag v1 (x2:(List (Int × (List Int)))),Ac b1 [(I a2.1),u2]]) ?_ ?_
    ·refine W_drawn 11 z hmix fun w6 hB6=>have hC9:=hC7.grow hB6;tm 0 z z z<|tk 1 z z (CG z)<|B2 z z<|Ab<|tm 2 z z z<|BO (fun hc2=>?_) (fun hc2=>?_)
     ·replace hr3:=AD hr3 hc2
      refine tn 4 z z z z z<|tn 5 z z z z z<|be hr3 fun x8 hx1 hr3=>tg 6 z z z z (BK Ah ty29 g1 hx1 z z)<|Ai z z<|AZ Ah ty29 g1 hx1 z z z fun b3 o1 h1=>Ab<|wAS (l':=[(0,u1),(3,(ptr b1 0)),(5,v1),(6,(.bool x3)),(7,(I x4)),(12,(I x4)),(13,u1),(14,(I (List.length a1:Int))),(15,(.bool (decide (x4 < (List.length a1:Int))))),(18,(.bool x3)),(19,(.bool (!x3))),(20,(.bool true)),(22,u1),(23,(I x4)),(24,(ptr b3 o1))]) ⟨z,z,z,z,z,z,z,z,z,z,z,z,z,z,z,Ak⟩<|Bq [⟨3,[],fun vs=>AR (.agg #[(I a2.1),u2]),[]⟩,⟨7,[],fun vs=>Cs [] w0 x8,[]⟩] [[],[]] 3 z (by kernel_rfl) (by kernel_rfl) z ?_ ?_
      ·refine Am z ?_ ?_
       ·intro w7 hB7
        refine Aw<|⟨_,z,?_⟩
        exact Ai z z<|At [(I a2.1),u2] (hC9.grow hB7) 1 z z z By AQ z z<|Ab<|A0 (An _ _) z z ⟨z,z⟩
       refine Am z ?_ ?_
       ·intro w7 hB7
        refine Aw<|⟨_,z,?_⟩
        exact Ai z z<|Be ty29 h1 (hC9.keep.then hB7) z z fun v5 h4=>Ab<|A0 (An _ _) z z ⟨z,h4⟩
       exact Ba
      intro w9 hB8
      refine Au z z z ?_
      rintro _ _ ⟨rfl,rfl⟩
      refine Au z z z ?_
      rintro v5 _ ⟨rfl,h4⟩
      obtain ⟨v4,rfl,h3⟩:=BM h4
      refine Bh fun hn1 hb1=>have hC10:=hC9.grow hB8;be hr3 fun x9 hr4 hr3=>oe 8 z<|Ai z z<|ci CB z z (c_S_CompareFacts (a2.1,a2.2) u2 (g2.now hC10.keep) x8 v4 (h3.now hC10.keep) x9 hr4) fun w10 hB9=>have hC11:=hC10.grow hB9;Ab<|tg 9 z z z z (fl_lss z z)<|Ai z z<|B8 z z z<|Ab<|tp 10 z z z z<|dn<|?_
      obtain rfl:=Aa hr3
      exact Ay (l':=[(0,u1),(3,(ptr b1 0)),(5,v1),(6,(.bool x3)),(7,(I x4)),(28,(.bool (decide (x9 < 0))))]) ⟨z,z,z,z,z,z,Ak⟩<|⟨(decide (x9 < 0)),z,z,(((Al hB6).then hB8).then hB9).below,hC11⟩
     replace hr3:=AE hr3 hc2
     refine sk 3 z z z z z<|sk 4 z z z z z<|sk 5 z z z z z<|sk 6 z z z z z<|sk 7 z z z z z<|sk 8 z z z z z<|sk 9 z z z z z<|tq 10 z z z z<|dn<|?_
     obtain rfl:=Aa hr3
     exact Ay (l':=[(0,u1),(3,(ptr b1 0)),(5,v1),(6,(.bool x3)),(7,(I x4)),(28,(.bool false))]) ⟨z,z,z,z,z,z,Ak⟩<|⟨false,z,z,(Al hB6).below,hC9⟩
    rintro _ w5 ⟨x7,rfl,rfl,hB5,hC8⟩
    try dsimp only at hL1
    refine be hL1 fun r3 hr5 hL1=>Bx (fun l w=>∃v6:Value,∃x10:(List (Int × (List Int))),∃x11:Bool,(x10,x11)=r3∧l=[(0,u1),(3,(ptr b1 0)),(5,v6),(6,(.bool x11)),(7,(I x4))]∧Ctx [] w0 w [Ag v6 (x10:(List (Int × (List Int)))),Ac b1 [(I a2.1),u2]]) ?_ ?_
    ·refine AL z (fun hc3=>?_) (fun hc3=>?_)
     ·replace hr5:=AD hr5 hc3
      refine Ad<|Ae z z<|fd A1 Ax z z z z<|Aq hC8 1 z z A6 z z<|fd A1 A4 z z z z<|Aq hC8 1 z z AU z z<|be hr5 fun x12 hr6 hr5=>AJ C2 z z (c_S_l2One a2.1 a2.2 u2 (g2.now hC8.keep) x12 hr6)<|?_
      rintro v7 w12 ⟨hB11,F1,hv3,hn2,hb2⟩
      have hC13:=hC8.push hB11 (A:=Ag v7 x12) hv3 hn2 hb2
      obtain ⟨v8,rfl,hC14⟩:=st29_own hC13
      refine AN (vs:=[(.agg #[(I x12.1),v8])]) hC14 Ah ty29 z z z z (fac z<|fa0) z z (fun b4 w13 hC15 hB12=>?_)
      have hC16:=hC15.row0 (α:=(Int × (List Int)))
      have hC18:=hC16.f2
      have hC17:=Cj x12.1 v8 x12.2 hC18
      have hC19:=hC17.row1
      have hC20:=hC19.front 1 z
      dsimp only [List.eraseIdx,List.cons_append,List.nil_append,List.append_nil] at hC20
      have hC21:Ctx [] w0 w13 (Ag (.slice (some ⟨b4,0,none⟩) 1 1) ([(x12.1,x12.2)]:List (Int × (List Int)))::[Ag v1 (x2:(List (Int × (List Int)))),Ac b1 [(I a2.1),u2]]):=hC20.rowOwn (by simp [maxLen])
      refine be hr5 fun x13 hx2 hr5=>BA hC21 0 z Ah ty29 z hx2 z z z fun v9 w14 hC22=>?_
      try dsimp only [List.set] at hC22
      refine Af z z<|Ab<|Bt<|Af z z<|Ab<|?_
      obtain rfl:=Aa hr5
      exact Ay (l':=[(0,u1),(3,(ptr b1 0)),(5,v9),(6,(.bool true)),(7,(I x4))]) ⟨z,z,z,z,z,Ak⟩<|⟨v9,x13,true,z,z,hC22⟩
     replace hr5:=AE hr5 hc3
     refine AM ?_
     obtain rfl:=Aa hr5
     exact Ay (l':=[(0,u1),(3,(ptr b1 0)),(5,v1),(6,(.bool x3)),(7,(I x4))]) ⟨z,z,z,z,z,Ak⟩<|⟨v1,x2,x3,z,z,hC8⟩
    rintro l3 _ w11 hs3 ⟨v6,x10,x11,rfl,rfl,hC12⟩
    try dsimp only at hL1
    refine Bm hs3 ?_
    clear hs3
    refine W_drawn 15 z hmix fun w15 hB13=>have hC24:=hC12.grow hB13;tm 0 z z z<|tm 1 z z z<|tm 2 z z z<|be hL1 fun x14 hx3 hL1=>tk 3 z z (BK Ah ty29 g1 hx3 z z)<|AZ Ah ty29 g1 hx3 z z z fun b5 o2 h5=>Ab<|tf 4 A1 Ax z z z z z<|tm 6 z z z<|tm 7 z z z<|be hL1 fun x15 hx4 hL1=>tk 8 z z (BK Ah ty29 g1 hx4 z z)<|AZ Ah ty29 g1 hx4 z z z fun b6 o3 h6=>Ab<|tf 9 A1 A4 z z z z z<|wAS (l':=[(0,u1),(3,(ptr b1 0)),(5,v6),(6,(.bool x11)),(7,(I x4)),(37,v6),(38,u1),(39,(I x4)),(40,(ptr b5 o2)),(41,(ptr b5 (o2+0))),(43,u1),(44,(I x4)),(45,(ptr b6 o3)),(46,(ptr b6 (o3+1)))]) ⟨z,z,z,z,z,z,z,z,z,z,z,z,z,z,Ak⟩<|Bq [⟨5,[],fun vs=>AR (I x14.1),[]⟩,⟨10,[],fun vs=>Cs [] w0 x15.2,[]⟩] [[],[]] 4 z (by kernel_rfl) (by kernel_rfl) z ?_ ?_
    ·refine Am z ?_ ?_
     ·intro w16 hB14
      refine Aw<|⟨_,z,?_⟩
      refine Be ty3 h5.fst (hC24.keep.then hB14) z z (fun v10 h7=>?_)
      obtain rfl:=BJ h7
      exact Ab<|A0 (An _ _) z z ⟨z,z⟩
     refine Am z ?_ ?_
     ·intro w16 hB14
      refine Aw<|⟨_,z,?_⟩
      exact Be ty24 h6.snd (hC24.keep.then hB14) z z fun v11 h8=>Ab<|A0 (An _ _) z z ⟨z,h8⟩
     exact Ba
    intro w17 hB15
    refine Au z z z ?_
    rintro _ _ ⟨rfl,rfl⟩
    refine Au z z z ?_
    rintro v11 _ ⟨rfl,h8⟩
    refine Bh fun hn3 hb3=>have hC25:=hC24.grow hB15;be hL1 fun x16 hr7 hL1=>oe 11 z<|AJ C2 z z (c_S_l2One x14.1 x15.2 v11 (h8.now hC25.keep) x16 hr7)<|?_
    rintro v12 w18 ⟨hB16,F2,hv4,hn4,hb4⟩
    have hC26:=hC25.push hB16 (A:=Ag v12 x16) hv4 hn4 hb4
    obtain ⟨v13,rfl,hC27⟩:=st29_own hC26
    refine Ab<|oe 12 z<|AN (vs:=[(.agg #[(I x16.1),v13])]) hC27 Ah ty29 z z z z (fac z<|fa0) z z fun b7 w19 hC28 hB17=>?_
    have hC29:=hC28.row0 (α:=(Int × (List Int)))
    have hC31:=hC29.f2
    have hC30:=Cj x16.1 v13 x16.2 hC31
    have hC32:=hC30.row1
    have hC33:=hC32.front 1 z
    dsimp only [List.eraseIdx,List.cons_append,List.nil_append,List.append_nil] at hC33
    have hC34:Ctx [] w0 w19 (Ag (.slice (some ⟨b7,0,none⟩) 1 1) ([(x16.1,x16.2)]:List (Int × (List Int)))::[Ag v6 (x10:(List (Int × (List Int)))),Ac b1 [(I a2.1),u2]]):=hC33.rowOwn (by simp [maxLen])
    refine Ab<|be hL1 fun x17 hx5 hL1=>oe 13 z<|BA hC34 0 z Ah ty29 z hx5 z z z fun v14 w20 hC35=>?_
    try dsimp only [List.set] at hC35
    exact Ab<|ta 14 z z z<|dn<|Bg<|Av<|Bt<|Ae z z<|Bw z z z<|Af z z<|Ab<|Ay (l':=[(0,u1),(3,(ptr b1 0)),(5,v14),(6,(.bool x11)),(7,(I (w64 (x4+1))))]) ⟨z,z,z,z,z,Ak⟩<|⟨k1,AO _,v14,x17,x11,w64 (x4+1),z,hC35,hL1⟩
   replace hL1:=AE hL1 hc1
   refine BF (AW (AW (B4 ?_)))
   obtain rfl:=Aa hL1
   exact Ay (l':=[(3,(ptr b1 0)),(5,v1),(6,(.bool x3))]) ⟨z,z,z,Ak⟩<|⟨v1,x2,x3,z,z,hC7⟩
 rintro l4 _ w21 hs4 ⟨v2,x5,x6,rfl,rfl,hC37⟩
 try dsimp only at hF
 refine Bm hs4 ?_
 clear hs4
 refine AA<|Ad<|Ae z z<|B2 z z<|Ab<|be hF fun r4 hr8 hF=>Bx (fun l w=>∃v15:Value,∃x18:(List (Int × (List Int))),x18=r4∧l=[(5,v15)]∧Ctx [] w0 w [Ag v15 (x18:(List (Int × (List Int))))]) ?_ ?_
 ·refine AL z (fun hc4=>?_) (fun hc4=>?_)
  ·replace hr8:=AD hr8 hc4
   refine Bt<|Ae z z<|fd A1 Ax z z z z<|Aq hC37 1 z z A6 z z<|fd A1 A4 z z z z<|Aq hC37 1 z z AU z z<|be hr8 fun x19 hr9 hr8=>AJ C2 z z (c_S_l2One a2.1 a2.2 u2 (g2.now hC37.keep) x19 hr9)<|?_
   rintro v16 w23 ⟨hB20,F3,hv5,hn5,hb5⟩
   have hC39:=hC37.push hB20 (A:=Ag v16 x19) hv5 hn5 hb5
   obtain ⟨v17,rfl,hC40⟩:=st29_own hC39
   refine AN (vs:=[(.agg #[(I x19.1),v17])]) hC40 Ah ty29 z z z z (fac z<|fa0) z z (fun b8 w24 hC41 hB21=>?_)
   have hC42:=hC41.row0 (α:=(Int × (List Int)))
   have hC44:=hC42.f2
   have hC43:=Cj x19.1 v17 x19.2 hC44
   have hC45:=hC43.row1
   have hC46:=hC45.front 1 z
   dsimp only [List.eraseIdx,List.cons_append,List.nil_append,List.append_nil] at hC46
   have hC47:Ctx [] w0 w24 (Ag (.slice (some ⟨b8,0,none⟩) 1 1) ([(x19.1,x19.2)]:List (Int × (List Int)))::[Ag v2 (x5:(List (Int × (List Int)))),Ac b1 [(I a2.1),u2]]):=hC46.rowOwn (by simp [maxLen])
   refine be hr8 fun x20 hx6 hr8=>BA hC47 0 z Ah ty29 z hx6 z z z fun v18 w25 hC48=>?_
   try dsimp only [List.set] at hC48
   refine Af z z<|Ab<|?_
   obtain rfl:=Aa hr8
   have hC50:=hC48.h1
   exact Ay (l':=[(5,v18)]) ⟨z,Ak⟩<|⟨v18,x20,z,z,hC50⟩
  replace hr8:=AE hr8 hc4
  refine AM ?_
  obtain rfl:=Aa hr8
  have hC51:=hC37.h1
  exact Ay (l':=[(5,v2)]) ⟨z,Ak⟩<|⟨v2,x5,z,z,hC51⟩
 rintro l5 _ w22 hs5 ⟨v15,x18,rfl,rfl,hC38⟩
 try dsimp only at hF
 refine Bm hs5 ?_
 clear hs5
 refine Ad<|Ae z z<|Af z z<|Ab<|AK<|?_
 obtain rfl:=Aa hF
 exact AB z z<|⟨_,z,Cf hC38 0 z⟩
theorem c_S_l2Fact {w0:World} {Fs:List (List Nat)} (pb1:Nat) (a1:((List UInt8) × Int × Int)) (u1:Value) (g1:RO Fs.flatten w0 u1 a1.1) (a2:(List Int)) (u2:Value) (g2:RO Fs.flatten w0 u2 a2) (a3:Int) (hH:Hold [Ac pb1 [u1,(I a1.2.1),(I a1.2.2)]] w0 Fs) (hn:Fs.flatten.Nodup) (rr:((Int × (List Int)) × ((List UInt8) × Int × Int))) (hF:S.l2Fact a1 a2 a3=some rr) :
 Calls Tryz.prog 66 [(ptr pb1 0),u2,(I a3)].toArray w0 fun e w'=>∃v,e=.returned v∧∃q0:Value,v=q0∧Ctx Fs.flatten w0 w' [Ag q0 (rr.1:(Int × (List Int))),Ac pb1 [u1,(I rr.2.2.1),(I rr.2.2.2)]]:=by
 refine A3 Tryz.func66 z z ?_
 have hC0:=B6 hH hn
 unfold S.l2Fact at hF
 refine Ad<|Bd hC0 zero29 z z fun b1 w1 hC1 hB1 hN1=>Ab<|Ad<|Ae z z<|Ae z z<|Bo Ap g2 z z<|be hF fun x1 hr1 hF=>have hC2:=hC1.f1;?_
 obtain ⟨Fs1,hH1,hn1,hF1,hO1,hb1⟩:=AS (As:=[Ac b1 [(I 0),(.slice none 0 0)]]) [Ac pb1 [u1,(I a1.2.1),(I a1.2.2)]] hC2
 refine AJ B0 z z (c_S_l1Below pb1 (a1.1,a1.2.1,a1.2.2) u1 (AX g1 hC2.keep hF1) (List.length a2:Int) hH1 hn1 x1 hr1) ?_
 rintro _ w2 ⟨rfl,hq1⟩
 have hC3:Ctx Fs.flatten w0 w2 [Ac pb1 [u1,(I x1.2.2.1),(I x1.2.2.2)],Ac b1 [(I 0),(.slice none 0 0)]]:=hb1 _ _ hq1
 refine BD (vs:=[(0,(I x1.1))]) z z z (built29_0 z)<|Bd hC3 zero29 z z fun b2 w3 hC4 hB2 hN2=>Aj (cs':=[(I x1.1),(.slice none 0 0)]) (new:=[(I x1.1),(.slice none 0 0)]) hC4 0 z z (fac z<|fac z<|fa0) z AQ z z fun w4 hC5 hKp1=>?_
 try dsimp only [List.set] at hC5
 have hk1:=Ar (Al hB2) hN2 hKp1
 refine Ab<|AA<|Ad<|Af z z<|Ab<|be hF fun r1 hr2 hF=>Bx (fun l w=>∃x7:Int,∃v2:Value,∃x8:(List Int),∃x9:Int,∃x10:Int,(x7,x8,x9,x10)=r1∧l=[(6,(ptr b1 0)),(7,(ptr b2 0))]∧Ctx Fs.flatten w0 w [Ag v2 (x8:(List Int)),Ac b2 [(I x7),v2],Ac pb1 [u1,(I x9),(I x10)],Ac b1 [(I 0),(.slice none 0 0)]]) ?_ ?_
 ·refine Bb ?_
  have hC22:=hC5.triv (nil_val (α:=Int))
  refine wS (l':=[(0,(ptr pb1 0)),(1,u2),(2,(I a3)),(6,(ptr b1 0)),(7,(ptr b2 0)),(8,(I 0))]) ⟨z,z,z,z,z,z,Ak⟩<|BE (fun k l w=>∃x2:Int,∃v1:Value,∃x3:(List Int),∃x4:Int,∃x5:Int,∃x6:Int,l=[(0,(ptr pb1 0)),(1,u2),(2,(I a3)),(6,(ptr b1 0)),(7,(ptr b2 0)),(8,(I x6))]∧Ctx Fs.flatten w0 w [Ag v1 (x3:(List Int)),Ac b2 [(I x2),v1],Ac pb1 [u1,(I x4),(I x5)],Ac b1 [(I 0),(.slice none 0 0)]]∧S.l2Fact_l1 a2 a1 a3 k x2 x3 x4 x5 x6=some r1) FUEL ⟨x1.1,(.slice none 0 0),[],x1.2.2.1,x1.2.2.2,0,z,hC22,hr2⟩<|?_
  clear hr2
  rintro k1 _ w5 ⟨x2,v1,x3,x4,x5,x6,rfl,hC6,hL1⟩
  cases k1 with
  | zero=>rw [S.l2Fact_l1] at hL1; cases hL1
  | succ k1 =>
   rw [S.l2Fact_l1] at hL1
   refine AA<|Ad<|Ae z z<|Ae z z<|fd A1 Ax z z z z<|Aq hC6 1 z z A6 z z<|be hL1 fun x11 hx1 hL1=>AZ Ap ty3 g2 hx1 z z z fun b3 o1 h1=>Be ty3 h1 hC6.keep z z fun v3 h2=>?_
   obtain rfl:=BJ h2
   refine B8 z z z<|Ab<|AL z (fun hc1=>?_) (fun hc1=>?_)
   ·replace hL1:=AD hL1 hc1
    refine AM<|Av<|AA<|Bb<|Ad<|Ae z z<|Ae z z<|be hL1 fun x12 hr3 hL1=>have hC7:=hC6.f2;?_
    obtain ⟨Fs2,hH2,hn2,hF2,hO2,hb2⟩:=AS (As:=[Ag v1 (x3:(List Int)),Ac b2 [(I x2),v1],Ac b1 [(I 0),(.slice none 0 0)]]) [Ac pb1 [u1,(I x4),(I x5)]] hC7
    refine AJ B0 z z (c_S_l1Below pb1 (a1.1,x4,x5) u1 (AX g1 hC7.keep hF2) a3 hH2 hn2 x12 hr3) ?_
    rintro _ w6 ⟨rfl,hq2⟩
    have hC8:Ctx Fs.flatten w0 w6 [Ac pb1 [u1,(I x12.2.2.1),(I x12.2.2.2)],Ag v1 (x3:(List Int)),Ac b2 [(I x2),v1],Ac b1 [(I 0),(.slice none 0 0)]]:=hb2 _ _ hq2
    refine Af z z<|Ab<|Bt<|fd A1 A4 z z z z<|Aq hC8 2 z z AU z z<|Ae z z<|AN (vs:=[(I x12.1)]) hC8 Ap ty3 z z z z (fac z<|fa0) z z fun b4 w7 hC9 hB4=>?_
    have hC10:=hC9.row0 (α:=Int)
    have hC11:=hC10.triv (Bv (x12.1))
    have hC12:=hC11.row1
    have hC13:=hC12.front 1 z
    dsimp only [List.eraseIdx,List.cons_append,List.nil_append,List.append_nil] at hC13
    have hC14:Ctx Fs.flatten w0 w7 (Ag (.slice (some ⟨b4,0,none⟩) 1 1) ([x12.1]:List Int)::[Ac pb1 [u1,(I x12.2.2.1),(I x12.2.2.2)],Ag v1 (x3:(List Int)),Ac b2 [(I x2),v1],Ac b1 [(I 0),(.slice none 0 0)]]):=hC13.rowOwn (by simp [maxLen])
    refine be hL1 fun x13 hx2 hL1=>BN (α:=Int) hC14 2 z (hC14.ro 0 z) (B5 _ _) Ap ty3 z hx2 z z z fun v4 w9 hC15=>?_
    try dsimp only [List.set] at hC15
    refine fd A1 A4 z z z z<|Bc (cs':=[(I x2),v4]) hC15 3 z z (AT (hC15.ro 2 z)) z A4 z z fun w10 hC16 hKp2=>?_
    try dsimp only [List.set] at hC16
    exact Ab<|Bg<|Av<|Bt<|Ae z z<|Bw z z z<|Af z z<|Ab<|have hC17:=hC16.f4;have hC18:=hC17.f2;have hC19:=hC18.f4;have hC20:=hC19.f4;have hC21:=hC20.h4;Ay (l':=[(0,(ptr pb1 0)),(1,u2),(2,(I a3)),(6,(ptr b1 0)),(7,(ptr b2 0)),(8,(I (w64 (x6+1))))]) ⟨z,z,z,z,z,z,Ak⟩<|⟨k1,AO _,x2,v4,x13,x12.2.2.1,x12.2.2.2,w64 (x6+1),z,hC21,hL1⟩
   replace hL1:=AE hL1 hc1
   refine BF (AW (AW (B4 ?_)))
   obtain rfl:=Aa hL1
   exact Ay (l':=[(6,(ptr b1 0)),(7,(ptr b2 0))]) ⟨z,z,Ak⟩<|⟨x2,v1,x3,x4,x5,z,z,hC6⟩
 rintro l2 _ w11 hs2 ⟨x7,v2,x8,x9,x10,rfl,rfl,hC23⟩
 try dsimp only at hF
 refine Bm hs2 ?_
 clear hs2
 refine Ad<|At [(I x7),v2] hC23 1 z z z By AQ z z<|Aj (cs':=[(I x7),v2]) (new:=[(I x7),v2]) hC23 3 z z (fac z<|fac (AT (hC23.ro 0 z))<|fa0) z AQ z z fun w12 hC24 hKp3=>?_
 try dsimp only [List.set] at hC24
 refine Ab (AK ?_)
 obtain rfl:=Aa hF
 refine BR z (rv_cell_agg (cs':=[(I x7),v2]) hC24 (i:=3) z z z By AQ z)<|have hC25:=hC24.f2;have hC27:=hC25.f1;?_
 have hC26:=Cj x7 v2 x8 hC27
 have hC28:=hC26.h2
 exact ⟨_,z,_,z,hC28⟩
theorem c_S_l2Facts {w0:World} {Fs:List (List Nat)} (pb1:Nat) (a1:((List UInt8) × Int × Int)) (u1:Value) (g1:RO Fs.flatten w0 u1 a1.1) (a2:(List Int)) (u2:Value) (g2:RO Fs.flatten w0 u2 a2) (a3:Int) (hH:Hold [Ac pb1 [u1,(I a1.2.1),(I a1.2.2)]] w0 Fs) (hn:Fs.flatten.Nodup) (rr:((List (Int × (List Int))) × ((List UInt8) × Int × Int))) (hF:S.l2Facts a1 a2 a3=some rr) :
 Calls Tryz.prog 89 [(ptr pb1 0),u2,(I a3)].toArray w0 fun e w'=>∃v,e=.returned v∧∃q0:Value,v=q0∧Ctx Fs.flatten w0 w' [Ag q0 (rr.1:(List (Int × (List Int)))),Ac pb1 [u1,(I rr.2.2.1),(I rr.2.2.2)]]:=by
 refine A3 Tryz.func89 z z ?_
 have hC0:=B6 hH hn
 unfold S.l2Facts at hF
 refine Ad<|Af z z<|Ab<|Ad<|AN (vs:=[]) hC0 Ah ty29 z z z z (by simp) z z fun b1 w1 hC1 hB1=>?_
 have hC2:=hC1.row0 (α:=(Int × (List Int)))
 have hC3:=hC2.front 1 z
 dsimp only [List.eraseIdx,List.cons_append,List.nil_append,List.append_nil] at hC3
 have hC4:Ctx Fs.flatten w0 w1 (Ag (.slice (some ⟨b1,0,none⟩) 0 0) (([]:List (Int × (List Int))):List (Int × (List Int)))::[Ac pb1 [u1,(I a1.2.1),(I a1.2.2)]]):=hC3.rowOwn (by simp [maxLen])
 refine Af z z<|Ab<|AA<|Ad<|Ae z z<|Ae z z<|Bw z z z<|be hF fun x1 hr1 hF=>have hC5:=hC4.f1;?_
 obtain ⟨Fs1,hH1,hn1,hF1,hO1,hb1⟩:=AS (As:=[Ag (.slice (some ⟨b1,0,none⟩) 0 0) (([]:List (Int × (List Int))):(List (Int × (List Int))))]) [Ac pb1 [u1,(I a1.2.1),(I a1.2.2)]] hC5
 refine AJ B0 z z (c_S_l1Below pb1 (a1.1,a1.2.1,a1.2.2) u1 (AX g1 hC5.keep hF1) (w64 (a3+1)) hH1 hn1 x1 hr1) ?_
 rintro _ w2 ⟨rfl,hq1⟩
 have hC6:Ctx Fs.flatten w0 w2 [Ac pb1 [u1,(I x1.2.2.1),(I x1.2.2.2)],Ag (.slice (some ⟨b1,0,none⟩) 0 0) (([]:List (Int × (List Int))):(List (Int × (List Int))))]:=hb1 _ _ hq1
 refine Af z z<|Ab<|be hF fun r1 hr2 hF=>Bx (fun l w=>∃x6:Int,∃x7:Int,∃v2:Value,∃x8:(List (Int × (List Int))),(x6,x7,x8)=r1∧l=[(7,v2)]∧Ctx Fs.flatten w0 w [Ac pb1 [u1,(I x6),(I x7)],Ag v2 (x8:(List (Int × (List Int))))]) ?_ ?_
 ·refine Bb<|wS (l':=[(0,(ptr pb1 0)),(1,u2),(7,(.slice (some ⟨b1,0,none⟩) 0 0)),(8,(I x1.1))]) ⟨z,z,z,z,Ak⟩<|BE (fun k l w=>∃x2:Int,∃x3:Int,∃v1:Value,∃x4:(List (Int × (List Int))),∃x5:Int,l=[(0,(ptr pb1 0)),(1,u2),(7,v1),(8,(I x5))]∧Ctx Fs.flatten w0 w [Ac pb1 [u1,(I x2),(I x3)],Ag v1 (x4:(List (Int × (List Int))))]∧S.l2Facts_l1 a1 a2 k x2 x3 x4 x5=some r1) FUEL ⟨x1.2.2.1,x1.2.2.2,(.slice (some ⟨b1,0,none⟩) 0 0),([]:List (Int × (List Int))),x1.1,z,hC6,hr2⟩<|?_
  clear hr2
  rintro k1 _ w3 ⟨x2,x3,v1,x4,x5,rfl,hC7,hL1⟩
  cases k1 with
  | zero=>rw [S.l2Facts_l1] at hL1; cases hL1
  | succ k1 =>
   rw [S.l2Facts_l1] at hL1
   refine AA<|Ad<|Ae z z<|Cr z z z<|Ab<|AL z (fun hc1=>?_) (fun hc1=>?_)
   ·replace hL1:=AD hL1 hc1
    refine AM<|Av<|AA<|Bb<|Bt<|Ae z z<|Ae z z<|Ae z z<|be hL1 fun x9 hr3 hL1=>?_
    obtain ⟨Fs2,hH2,hn2,hF2,hO2,hb2⟩:=AS (As:=[Ag v1 (x4:(List (Int × (List Int))))]) [Ac pb1 [u1,(I x2),(I x3)]] hC7
    refine AJ Tryz.call66 z z (c_S_l2Fact pb1 (a1.1,x2,x3) u1 (AX g1 hC7.keep hF2) a2 u2 (AX g2 hC7.keep hF2) 4 hH2 hn2 x9 hr3) ?_
    rintro v3 w4 ⟨_,rfl,hq2⟩
    have hC8:Ctx Fs.flatten w0 w4 [Ag v3 (x9.1:(Int × (List Int))),Ac pb1 [u1,(I x9.2.2.1),(I x9.2.2.2)],Ag v1 (x4:(List (Int × (List Int))))]:=hb2 _ _ hq2
    obtain ⟨v4,rfl,hC9⟩:=st29_own hC8
    refine be hL1 fun x10 hr4 hL1=>AJ Tryz.call41 z z (c_S_AddFact x4 v1 ((hC9.ro 2 z).now (B5 _ _)) x9.1 v4 ((hC9.ro 0 z).now (B5 _ _)) x10 hr4)<|?_
    rintro v5 w5 ⟨hB3,F1,hv1,hn3,hb3⟩
    have hC10:=hC9.push hB3 (A:=Ag v5 x10) hv1 hn3 hb3
    exact Af z z<|Ab<|Bg<|Av<|Bt<|Ae z z<|BV z z z<|Af z z<|Ab<|have hC11:=hC10.f2;have hC12:=hC11.h2;Ay (l':=[(0,(ptr pb1 0)),(1,u2),(7,v5),(8,(I (w64 (x5 - 1))))]) ⟨z,z,z,z,Ak⟩<|⟨k1,AO _,x9.2.2.1,x9.2.2.2,v5,x10,w64 (x5 - 1),z,hC12,hL1⟩
   replace hL1:=AE hL1 hc1
   refine BF (AW (AW (B4 ?_)))
   obtain rfl:=Aa hL1
   exact Ay (l':=[(7,v1)]) ⟨z,Ak⟩<|⟨x2,x3,v1,x4,z,z,hC7⟩
 rintro l2 _ w6 hs2 ⟨x6,x7,v2,x8,rfl,rfl,hC13⟩
 try dsimp only at hF
 refine Bm hs2 ?_
 clear hs2
 refine Ad<|Ae z z<|Af z z<|Ab<|AK<|?_
 obtain rfl:=Aa hF
 exact AB z z<|have hC14:=hC13.f1;⟨_,z,_,z,hC14⟩
theorem c_S_l1In {w0:World} (a1:Int) (a2:Int) (a3:Int) (rr:Bool) (hF:S.l1In a1 a2 a3=some rr) :
 Calls Tryz.prog 47 [(I a1),(I a2),(I a3)].toArray w0 fun e w'=>∃v,e=.returned v∧Res w0 rr v w':=by
 refine A3 Tryz.func47 z z ?_
 have hC0:=AH w0
 unfold S.l1In at hF
 refine Ad<|Af z z<|Ab<|be hF fun r1 hr1 hF=>BL (fun l w=>∃x1:Bool,x1=r1∧l=[(6,(.bool x1))]∧Below w0.heap.size w0 w∧Ctx [] w0 w []) ?_ ?_
 ·refine Bt<|Ae z z<|Ae z z<|Cu z z z<|Ae z z<|B3 (fun hc1=>?_) (fun hc1=>?_)
  ·replace hr1:=AD hr1 hc1
   refine Ai z z<|Ae z z<|Ai z z<|Ae z z<|Ai z z<|CE z z z<|AI z z z<|Af z z<|Ab<|?_
   obtain rfl:=Aa hr1
   exact Ay (l':=[(6,(.bool (decide (a1 ≤ a3))))]) ⟨z,Ak⟩<|⟨(decide (a1 ≤ a3)),z,z,(An _ _),hC0⟩
  replace hr1:=AE hr1 hc1
  refine gs z z z z<|gs z z z z<|gs z z z z<|AY z z z<|Af z z<|Ab<|?_
  obtain rfl:=Aa hr1
  exact Ay (l':=[(6,(.bool false))]) ⟨z,Ak⟩<|⟨false,z,z,(An _ _),hC0⟩
 rintro _ w1 ⟨x1,rfl,rfl,hB1,hC1⟩
 try dsimp only at hF
 refine AK ?_
 obtain rfl:=Aa hF
 exact AB z z<|⟨_,z,Bf hC1 _⟩
theorem c_S_IsSchema {w0:World} (a1:(List Int)) (u1:Value) (g1:RO [] w0 u1 a1) (rr:Bool) (hF:S.IsSchema a1=some rr) :
 Calls Tryz.prog 65 [u1].toArray w0 fun e w'=>∃v,e=.returned v∧Res w0 rr v w':=by
 refine A3 Tryz.func65 z z ?_
 have hC0:=AH w0
 unfold S.IsSchema at hF
 refine Ad<|Af z z<|Ab<|AA<|Ad<|Af z z<|Ab<|be hF fun r1 hr1 hF=>Bx (fun l w=>.inl ()=r1∧l=[(0,u1)]∧Below w0.heap.size w0 w∧Ctx [] w0 w []) ?_ ?_
 ·refine Bb<|wS (l':=[(0,u1),(3,(I 0))]) ⟨z,z,Ak⟩<|BE (fun k l w=>∃x1:Int,l=[(0,u1),(3,(I x1))]∧Below w0.heap.size w0 w∧Ctx [] w0 w []∧S.IsSchema_l1 a1 k x1=some r1) FUEL ⟨0,z,(An _ _),hC0,hr1⟩<|?_
  clear hr1
  rintro k1 _ w1 ⟨x1,rfl,hB1,hC1,hL1⟩
  cases k1 with
  | zero=>rw [S.IsSchema_l1] at hL1; cases hL1
  | succ k1 =>
   rw [S.IsSchema_l1] at hL1
   refine AA<|Ad<|Ae z z<|Ae z z<|Bo Ap g1 z z<|B8 z z z<|Ab<|AL z (fun hc1=>?_) (fun hc1=>?_)
   ·replace hL1:=AD hL1 hc1
    refine AM<|Av<|AA<|Bb<|Ad<|Ae z z<|Ae z z<|be hL1 fun x2 hx1 hL1=>AZ Ap ty3 g1 hx1 z z z fun b1 o1 h1=>Be ty3 h1 hC1.keep z z fun v1 h2=>?_
    obtain rfl:=BJ h2
    refine be hL1 fun x3 hr2 hL1=>cb B9 z z (c_S_l1In x2 1 3 x3 hr2) fun w2 hB2=>have hC2:=hC1.grow hB2;B2 z z<|Ab<|AL z (fun hc2=>?_) (fun hc2=>?_)
    ·replace hL1:=AD hL1 hc2
     refine Ad<|Af z z<|Ab<|AK<|Bu<|A2<|A2<|Bu<|A2<|A2<|?_
     obtain rfl:=Aa hL1
     dsimp only at hF
     obtain rfl:=Aa hF
     exact AB z z<|⟨_,z,Bf hC2 _⟩
    replace hL1:=AE hL1 hc2
    exact AM<|Bg<|Av<|Bt<|Ae z z<|Bw z z z<|Af z z<|Ab<|Ay (l':=[(0,u1),(3,(I (w64 (x1+1))))]) ⟨z,z,Ak⟩<|⟨k1,AO _,w64 (x1+1),z,((Al hB1).then hB2).below,hC2,hL1⟩
   replace hL1:=AE hL1 hc1
   refine BF (AW (AW (B4 ?_)))
   obtain rfl:=Aa hL1
   exact Ay (l':=[(0,u1)]) ⟨z,Ak⟩<|⟨z,z,(Al hB1).below,hC1⟩
 rintro l2 _ w3 hs2 ⟨rfl,rfl,hB3,hC3⟩
 try dsimp only at hF
 refine Bm hs2 ?_
 clear hs2
 refine Ad<|Ae z z<|Bo Ap g1 z z<|be hF fun x4 hr3 hF=>cb B9 z z (c_S_l1In (List.length a1:Int) 1 3 x4 hr3) fun w4 hB4=>have hC4:=hC3.grow hB4;Af z z<|Ab<|AK<|?_
 obtain rfl:=Aa hF
 exact AB z z<|⟨_,z,Bf hC4 _⟩
theorem c_S_l5AnyMethod {w0:World} {Fs:List (List Nat)} (pb1:Nat) (a1:((List UInt8) × Int × Int)) (u1:Value) (g1:RO Fs.flatten w0 u1 a1.1) (a2:(List Int)) (u2:Value) (g2:RO Fs.flatten w0 u2 a2) (hH:Hold [Ac pb1 [u1,(I a1.2.1),(I a1.2.2)]] w0 Fs) (hn:Fs.flatten.Nodup) (rr:((Int × (List Int) × Int × Int × Int) × ((List UInt8) × Int × Int))) (hF:S.l5AnyMethod a1 a2=some rr) :
 Calls Tryz.prog 90 [(ptr pb1 0),u2].toArray w0 fun e w'=>∃v,e=.returned v∧∃q0:Value,v=q0∧Ctx Fs.flatten w0 w' [Ag q0 (rr.1:(Int × (List Int) × Int × Int × Int)),Ac pb1 [u1,(I rr.2.2.1),(I rr.2.2.2)]]:=by
 refine A3 Tryz.func90 z z ?_
 have hC0:=B6 hH hn
 unfold S.l5AnyMethod at hF
 refine Ad<|Bd hC0 zero93 z z fun b1 w1 hC1 hB1 hN1=>Ab<|Ad<|BD (vs:=[(4,(I 1))]) z z z (built93_4 z)<|Bd hC1 zero93 z z fun b2 w2 hC2 hB2 hN2=>Aj (cs':=[(I 0),(.slice none 0 0),(I 0),(I 0),(I 1)]) (new:=[(I 0),(.slice none 0 0),(I 0),(I 0),(I 1)]) hC2 0 z z (fac z<|fac z<|fac z<|fac z<|fac z<|fa0) z BC z z fun w3 hC3 hKp1=>?_
 try dsimp only [List.set] at hC3
 have hk1:=Ar ((Al hB1).then hB2) (Ao (Al hB1).size hN2) hKp1
 have hk2:=Ar (Al hB2) hN2 hKp1
 refine Ab<|AA<|Ad<|Ae z z<|be hF fun x1 hr1 hF=>cb Cm z z (c_S_IsSchema a2 u2 (g2.now hC3.keep) x1 hr1) fun w4 hB3=>have hC4:=hC3.grow hB3;Ab<|be hF fun r1 hr2 hF=>Bx (fun l w=>∃x2:Int,∃v1:Value,∃x3:(List Int),∃x4:Int,∃x5:Int,∃x6:Int,∃x7:Int,∃x8:Int,(x2,x3,x4,x5,x6,x7,x8)=r1∧l=[(0,(ptr pb1 0)),(4,(ptr b1 0)),(5,(ptr b2 0))]∧Ctx Fs.flatten w0 w [Ag v1 (x3:(List Int)),Ac b2 [(I x2),v1,(I x4),(I x5),(I x6)],Ac b1 [(I 0),(.slice none 0 0),(I 0),(I 0),(I 0)],Ac pb1 [u1,(I x7),(I x8)]]) ?_ ?_
 ·refine AL z (fun hc1=>?_) (fun hc1=>?_)
  ·replace hr2:=AD hr2 hc1
   refine Bt<|Ae z z<|Ae z z<|be hr2 fun x9 hr3 hr2=>have hC6:=hC4.f2;?_
   obtain ⟨Fs1,hH1,hn1,hF1,hO1,hb1⟩:=AS (As:=[Ac b2 [(I 0),(.slice none 0 0),(I 0),(I 0),(I 1)],Ac b1 [(I 0),(.slice none 0 0),(I 0),(I 0),(I 0)]]) [Ac pb1 [u1,(I a1.2.1),(I a1.2.2)]] hC6
   refine AJ Tryz.call104 z z (c_S_l5Method pb1 (a1.1,a1.2.1,a1.2.2) u1 (AX g1 hC6.keep hF1) a2 u2 (AX g2 hC6.keep hF1) hH1 hn1 x9 hr3) ?_
   rintro v2 w6 ⟨_,rfl,hq1⟩
   have hC7:Ctx Fs.flatten w0 w6 [Ag v2 (x9.1:(Int × (List Int) × Int × Int × Int)),Ac pb1 [u1,(I x9.2.2.1),(I x9.2.2.2)],Ac b2 [(I 0),(.slice none 0 0),(I 0),(I 0),(I 1)],Ac b1 [(I 0),(.slice none 0 0),(I 0),(I 0),(I 0)]]:=hb1 _ _ hq1
   obtain ⟨v3,rfl,hC8⟩:=st93_own hC7
   refine Aj (cs':=[(I x9.1.1),v3,(I x9.1.2.2.1),(I x9.1.2.2.2.1),(I x9.1.2.2.2.2)]) (new:=[(I x9.1.1),v3,(I x9.1.2.2.1),(I x9.1.2.2.2.1),(I x9.1.2.2.2.2)]) hC8 2 z z (fac z<|fac (AT (hC8.ro 0 z))<|fac z<|fac z<|fac z<|fa0) z BC z z (fun w7 hC9 hKp2=>?_)
   try dsimp only [List.set] at hC9
   refine Ab ?_
   obtain rfl:=Aa hr2
   have hC10:=hC9.f1
   have hC11:=hC10.f3
   have hC12:=hC11.f3
   have hC13:=hC12.f3
   exact Ay (l':=[(0,(ptr pb1 0)),(4,(ptr b1 0)),(5,(ptr b2 0))]) ⟨z,z,z,Ak⟩<|⟨x9.1.1,v3,x9.1.2.1,x9.1.2.2.1,x9.1.2.2.2.1,x9.1.2.2.2.2,x9.2.2.1,x9.2.2.2,z,z,hC13⟩
  replace hr2:=AE hr2 hc1
  refine AM ?_
  obtain rfl:=Aa hr2
  have hC14:=hC4.triv (nil_val (α:=Int))
  exact Ay (l':=[(0,(ptr pb1 0)),(4,(ptr b1 0)),(5,(ptr b2 0))]) ⟨z,z,z,Ak⟩<|⟨0,(.slice none 0 0),[],0,0,1,a1.2.1,a1.2.2,z,z,hC14⟩
 rintro l1 _ w5 hs1 ⟨x2,v1,x3,x4,x5,x6,x7,x8,rfl,rfl,hC5⟩
 try dsimp only at hF
 refine Bm hs1 ?_
 clear hs1
 refine AA<|Ad<|Ae z z<|be hF fun x10 hr4 hF=>have hC15:=hC5.f3;?_
 obtain ⟨Fs2,hH2,hn2,hF2,hO2,hb2⟩:=AS (As:=[Ag v1 (x3:(List Int)),Ac b2 [(I x2),v1,(I x4),(I x5),(I x6)],Ac b1 [(I 0),(.slice none 0 0),(I 0),(I 0),(I 0)]]) [Ac pb1 [u1,(I x7),(I x8)]] hC15
 refine AJ B0 z z (c_S_l1Below pb1 (a1.1,x7,x8) u1 (AX g1 hC15.keep hF2) 10 hH2 hn2 x10 hr4) ?_
 rintro _ w9 ⟨rfl,hq4⟩
 have hC16:Ctx Fs.flatten w0 w9 [Ac pb1 [u1,(I x10.2.2.1),(I x10.2.2.2)],Ag v1 (x3:(List Int)),Ac b2 [(I x2),v1,(I x4),(I x5),(I x6)],Ac b1 [(I 0),(.slice none 0 0),(I 0),(I 0),(I 0)]]:=hb2 _ _ hq4
 refine Ab<|Bb<|Ad<|BP z z z<|Af z z<|Ab<|be hF fun r2 hr5 hF=>Bx (fun l w=>∃x11:Int,∃x12:Int,∃x13:Int,∃v4:Value,∃x14:(List Int),∃x15:Int,∃x16:Int,∃x17:Int,(x11,x12,x13,x14,x15,x16,x17)=r2∧l=[(4,(ptr b1 0)),(5,(ptr b2 0))]∧Ctx Fs.flatten w0 w [Ac pb1 [u1,(I x11),(I x12)],Ag v4 (x14:(List Int)),Ac b2 [(I x13),v4,(I x15),(I x16),(I x17)],Ac b1 [(I 0),(.slice none 0 0),(I 0),(I 0),(I 0)]]) ?_ ?_
 ·refine AL z (fun hc2=>?_) (fun hc2=>?_)
  ·replace hr5:=AD hr5 hc2
   refine Bt<|Ae z z<|AN (vs:=[(I (-1)),(I 9),(I 10)]) hC16 Ap ty3 z z z z (fac z<|fac z<|fac z<|fa0) z z fun b3 w11 hC18 hB6=>?_
   have hC19:=hC18.row0 (α:=Int)
   have hC20:=hC19.triv (Bv (10))
   have hC21:=hC20.row1
   have hC22:=hC21.triv (Bv (9))
   have hC23:=hC22.row1
   have hC24:=hC23.triv (Bv ((-1)))
   have hC25:=hC24.row1
   have hC26:=hC25.front 1 z
   dsimp only [List.eraseIdx,List.cons_append,List.nil_append,List.append_nil] at hC26
   have hC27:Ctx Fs.flatten w0 w11 (Ag (.slice (some ⟨b3,0,none⟩) 3 3) ([(-1),9,10]:List Int)::[Ac pb1 [u1,(I x10.2.2.1),(I x10.2.2.2)],Ag v1 (x3:(List Int)),Ac b2 [(I x2),v1,(I x4),(I x5),(I x6)],Ac b1 [(I 0),(.slice none 0 0),(I 0),(I 0),(I 0)]]):=hC26.rowOwn (by simp [maxLen])
   refine be hr5 fun x18 hr6 hr5=>have hC28:=hC27.f1;?_
   obtain ⟨Fs3,hH3,hn3,hF3,hO3,hb3⟩:=AS (As:=[Ag (.slice (some ⟨b3,0,none⟩) 3 3) ([(-1),9,10]:(List Int)),Ag v1 (x3:(List Int)),Ac b2 [(I x2),v1,(I x4),(I x5),(I x6)],Ac b1 [(I 0),(.slice none 0 0),(I 0),(I 0),(I 0)]]) [Ac pb1 [u1,(I x10.2.2.1),(I x10.2.2.2)]] hC28
   refine AJ BY z z (c_S_l1PickInt pb1 (a1.1,x10.2.2.1,x10.2.2.2) u1 (AX g1 hC28.keep hF3) ([(-1),9,10]) (.slice (some ⟨b3,0,none⟩) 3 3) (hO3 0 _ _ _ z) hH3 hn3 x18 hr6) ?_
   rintro _ w12 ⟨rfl,hq5⟩
   have hC29:Ctx Fs.flatten w0 w12 [Ac pb1 [u1,(I x18.2.2.1),(I x18.2.2.2)],Ag (.slice (some ⟨b3,0,none⟩) 3 3) ([(-1),9,10]:(List Int)),Ag v1 (x3:(List Int)),Ac b2 [(I x2),v1,(I x4),(I x5),(I x6)],Ac b1 [(I 0),(.slice none 0 0),(I 0),(I 0),(I 0)]]:=hb3 _ _ hq5
   refine fd AP Ax z z z z<|Bc (cs':=[(I x2),v1,(I x18.1),(I x5),(I x6)]) hC29 3 z z z z Ax z z fun w13 hC30 hKp3=>?_
   try dsimp only [List.set] at hC30
   refine Ab ?_
   obtain rfl:=Aa hr5
   have hC31:=hC30.f4
   have hC32:=hC31.f4
   have hC33:=hC32.f4
   have hC34:=hC33.f3
   have hC35:=hC34.h4
   exact Ay (l':=[(4,(ptr b1 0)),(5,(ptr b2 0))]) ⟨z,z,Ak⟩<|⟨x18.2.2.1,x18.2.2.2,x2,v1,x3,x18.1,x5,x6,z,z,hC35⟩
  replace hr5:=AE hr5 hc2
  refine Ad<|BP z z z<|Af z z<|Ab<|be hr5 fun r3 hr7 hr5=>Bx (fun l w=>∃x19:Int,∃x20:Int,∃x21:Int,∃v5:Value,∃x22:(List Int),∃x23:Int,∃x24:Int,∃x25:Int,(x19,x20,x21,x22,x23,x24,x25)=r3∧l=[(4,(ptr b1 0)),(5,(ptr b2 0))]∧Ctx Fs.flatten w0 w [Ac pb1 [u1,(I x19),(I x20)],Ag v5 (x22:(List Int)),Ac b2 [(I x21),v5,(I x23),(I x24),(I x25)],Ac b1 [(I 0),(.slice none 0 0),(I 0),(I 0),(I 0)]]) ?_ ?_
  ·refine AL z (fun hc3=>?_) (fun hc3=>?_)
   ·replace hr7:=AD hr7 hc3
    refine be hr7 fun r4 hr8 hr7=>Bx (fun l w=>∃x26:Int,∃x27:Int,∃x28:Int,∃v6:Value,∃x29:(List Int),∃x30:Int,∃x31:Int,∃x32:Int,(x26,x27,x28,x29,x30,x31,x32)=r4∧l=[(4,(ptr b1 0)),(5,(ptr b2 0))]∧Ctx Fs.flatten w0 w [Ac pb1 [u1,(I x26),(I x27)],Ag v6 (x29:(List Int)),Ac b2 [(I x28),v6,(I x30),(I x31),(I x32)],Ac b1 [(I 0),(.slice none 0 0),(I 0),(I 0),(I 0)]]) ?_ ?_
    ·refine W_drawn 9 z hmix fun w16 hB9=>have hC38:=hC16.grow hB9;tf 0 AP A4 z z z z z<|tm 2 z z z<|Ci (i:=1) (j:=3) (by kernel_rfl) z z ?_ ?_
     ·refine Aq hC38 2 z z AU z z<|Ab<|be hr8 fun x33 hr9 hr8=>oe 3 z<|?_
      obtain ⟨Fs4,hH4,hn4,hF4,hO4,hb4⟩:=AS (As:=[Ag v1 (x3:(List Int)),Ac b2 [(I x2),v1,(I x4),(I x5),(I x6)],Ac b1 [(I 0),(.slice none 0 0),(I 0),(I 0),(I 0)]]) [Ac pb1 [u1,(I x10.2.2.1),(I x10.2.2.2)]] hC38
      refine AJ B0 z z (c_S_l1Below pb1 (a1.1,x10.2.2.1,x10.2.2.2) u1 (AX g1 hC38.keep hF4) 5 hH4 hn4 x33 hr9) ?_
      rintro _ w17 ⟨rfl,hq7⟩
      have hC39:Ctx Fs.flatten w0 w17 [Ac pb1 [u1,(I x33.2.2.1),(I x33.2.2.2)],Ag v1 (x3:(List Int)),Ac b2 [(I x2),v1,(I x4),(I x5),(I x6)],Ac b1 [(I 0),(.slice none 0 0),(I 0),(I 0),(I 0)]]:=hb4 _ _ hq7
      refine Ab<|tk 4 z z (Cz z z)<|BV z z z<|Ab<|oe 5 z<|AN (vs:=[(I (w64 (x33.1 - 1)))]) hC39 Ap ty3 z z z z (fac z<|fa0) z z fun b4 w18 hC40 hB10=>?_
      have hC41:=hC40.row0 (α:=Int)
      have hC42:=hC41.triv (Bv (w64 (x33.1 - 1)))
      have hC43:=hC42.row1
      have hC44:=hC43.front 1 z
      dsimp only [List.eraseIdx,List.cons_append,List.nil_append,List.append_nil] at hC44
      have hC45:Ctx Fs.flatten w0 w18 (Ag (.slice (some ⟨b4,0,none⟩) 1 1) ([w64 (x33.1 - 1)]:List Int)::[Ac pb1 [u1,(I x33.2.2.1),(I x33.2.2.2)],Ag v1 (x3:(List Int)),Ac b2 [(I x2),v1,(I x4),(I x5),(I x6)],Ac b1 [(I 0),(.slice none 0 0),(I 0),(I 0),(I 0)]]):=hC44.rowOwn (by simp [maxLen])
      refine Ab<|be hr8 fun x34 hx1 hr8=>oe 6 z<|BN (α:=Int) hC45 2 z (hC45.ro 0 z) (B5 _ _) Ap ty3 z hx1 z z z fun v7 w19 hC46=>?_
      try dsimp only [List.set] at hC46
      refine Ab<|tf 7 AP A4 z z z z z<|oe 8 z<|Bc (cs':=[(I x2),v7,(I x4),(I x5),(I x6)]) hC46 3 z z (AT (hC46.ro 2 z)) z A4 z z fun w20 hC47 hKp4=>?_
      try dsimp only [List.set] at hC47
      refine Ab<|dn<|?_
      obtain rfl:=Aa hr8
      have hC48:=hC47.f4
      have hC49:=hC48.f4
      have hC50:=hC49.f4
      have hC51:=hC50.f4
      have hC52:=hC51.h4
      exact Ay (l':=[(4,(ptr b1 0)),(5,(ptr b2 0))]) ⟨z,z,Ak⟩<|⟨x33.2.2.1,x33.2.2.2,x2,v7,x34,x4,x5,x6,z,z,hC52⟩
     obtain ⟨x33,hr9,hr8⟩:=bind_some hr8
     obtain ⟨Fs4,hH4,hn4,hF4,hO4,hb4⟩:=AS (As:=[Ag v1 (x3:(List Int)),Ac b2 [(I x2),v1,(I x4),(I x5),(I x6)],Ac b1 [(I 0),(.slice none 0 0),(I 0),(I 0),(I 0)]]) [Ac pb1 [u1,(I x10.2.2.1),(I x10.2.2.2)]] hC38
     refine AJ B0 z z (c_S_l1Below pb1 (a1.1,x10.2.2.1,x10.2.2.2) u1 (AX g1 hC38.keep hF4) 5 hH4 hn4 x33 hr9) ?_
     rintro _ w17 ⟨rfl,hq7⟩
     have hC39:Ctx Fs.flatten w0 w17 [Ac pb1 [u1,(I x33.2.2.1),(I x33.2.2.2)],Ag v1 (x3:(List Int)),Ac b2 [(I x2),v1,(I x4),(I x5),(I x6)],Ac b1 [(I 0),(.slice none 0 0),(I 0),(I 0),(I 0)]]:=hb4 _ _ hq7
     refine Ab<|tk 4 z z (Cz z z)<|BV z z z<|Ab<|wAS (l':=[(0,(ptr pb1 0)),(4,(ptr b1 0)),(5,(ptr b2 0)),(12,(ptr pb1 0)),(13,(I x10.1)),(14,(.bool (decide (x10.1=0)))),(15,(.bool (decide (x10.1=0)))),(20,(.bool (decide (x10.1=1)))),(21,(.bool (decide (x10.1=1)))),(22,(ptr b2 1)),(24,(ptr pb1 0)),(25,(I x33.1)),(26,(I (w64 (x33.1 - 1))))]) ⟨z,z,z,z,z,z,z,z,z,z,z,z,z,Ak⟩<|Bq [⟨1,[],fun vs=>AR v1,[]⟩,⟨5,[],fun vs=>Cv ([w64 (x33.1 - 1)]:(List Int)),[]⟩] [[],[]] 3 z (by kernel_rfl) (by kernel_rfl) z ?_ ?_
     ·refine Am z ?_ ?_
      ·intro w19 hB11
       refine Aw<|⟨_,z,?_⟩
       exact Aq (hC39.grow hB11) 2 z z AU z z<|Ab<|A0 (An _ _) z z ⟨z,z⟩
      refine Am z ?_ ?_
      ·intro w19 hB11
       refine Aw<|⟨_,z,?_⟩
       refine AN (vs:=[(I (w64 (x33.1 - 1)))]) (AH w19) Ap ty3 z z z z (fac z<|fa0) z z (fun b4 w18 hC40 hB10=>?_)
       have hC41:=hC40.row0 (α:=Int)
       have hC42:=hC41.triv (Bv (w64 (x33.1 - 1)))
       have hC43:=hC42.row1
       have hC44:=hC43.front 1 z
       dsimp only [List.eraseIdx,List.cons_append,List.nil_append,List.append_nil] at hC44
       have hC45:Ctx [] w19 w18 (Ag (.slice (some ⟨b4,0,none⟩) 1 1) ([w64 (x33.1 - 1)]:List Int)::[]):=hC44.rowOwn (by simp [maxLen])
       exact Ab<|CI hC45 z z (fun F h=>h)
      exact Ba
     intro w20 hB12
     refine Au z z z ?_
     rintro _ _ ⟨rfl,rfl⟩
     refine Au z z z fun v7 F1 hv2=>Bh fun hn5 hb5=>?_
     have hC46:=hC39.pushL hB12 (Bs:=[Ag v7 ([w64 (x33.1 - 1)]:(List Int))]) (Fs:=[F1]) ⟨F1,_,z,hv2,z⟩ (by simpa using hn5) (fun b h=>(hb5 b (by simpa using h)).1)
     refine be hr8 fun x34 hx1 hr8=>oe 6 z<|BN (α:=Int) hC46 2 z (hC46.ro 0 z) (B5 _ _) Ap ty3 z hx1 z z z fun v8 w21 hC47=>?_
     try dsimp only [List.set] at hC47
     refine Ab<|tf 7 AP A4 z z z z z<|oe 8 z<|Bc (cs':=[(I x2),v8,(I x4),(I x5),(I x6)]) hC47 3 z z (AT (hC47.ro 2 z)) z A4 z z fun w22 hC48 hKp4=>?_
     try dsimp only [List.set] at hC48
     refine Ab<|dn<|?_
     obtain rfl:=Aa hr8
     have hC49:=hC48.f4
     have hC50:=hC49.f4
     have hC51:=hC50.f4
     have hC52:=hC51.f4
     have hC53:=hC52.h4
     exact Ay (l':=[(4,(ptr b1 0)),(5,(ptr b2 0))]) ⟨z,z,Ak⟩<|⟨x33.2.2.1,x33.2.2.2,x2,v8,x34,x4,x5,x6,z,z,hC53⟩
    rintro l4 _ w15 hs4 ⟨x26,x27,x28,v6,x29,x30,x31,x32,rfl,rfl,hC37⟩
    try dsimp only at hr7
    obtain rfl:=Aa hr7
    exact Cn (l2:=[(4,(ptr b1 0)),(5,(ptr b2 0))]) hs4 ⟨z,z,Ak⟩<|⟨x26,x27,x28,v6,x29,x30,x31,x32,z,z,hC37⟩
   replace hr7:=AE hr7 hc3
   refine Ad<|BP z z z<|Af z z<|Ab<|be hr7 fun r5 hr10 hr7=>Bx (fun l w=>∃x35:Int,∃x36:Int,∃x37:Int,∃v9:Value,∃x38:(List Int),∃x39:Int,∃x40:Int,∃x41:Int,(x35,x36,x37,x38,x39,x40,x41)=r5∧l=[(4,(ptr b1 0)),(5,(ptr b2 0))]∧Ctx Fs.flatten w0 w [Ac pb1 [u1,(I x35),(I x36)],Ag v9 (x38:(List Int)),Ac b2 [(I x37),v9,(I x39),(I x40),(I x41)],Ac b1 [(I 0),(.slice none 0 0),(I 0),(I 0),(I 0)]]) ?_ ?_
   ·refine AL z (fun hc4=>?_) (fun hc4=>?_)
    ·replace hr10:=AD hr10 hc4
     refine Bt<|Ae z z<|AN (vs:=[(I 0),(I 99),(I 100)]) hC16 Ap ty3 z z z z (fac z<|fac z<|fac z<|fa0) z z fun b5 w24 hC55 hB14=>?_
     have hC56:=hC55.row0 (α:=Int)
     have hC57:=hC56.triv (Bv (100))
     have hC58:=hC57.row1
     have hC59:=hC58.triv (Bv (99))
     have hC60:=hC59.row1
     have hC61:=hC60.triv (Bv (0))
     have hC62:=hC61.row1
     have hC63:=hC62.front 1 z
     dsimp only [List.eraseIdx,List.cons_append,List.nil_append,List.append_nil] at hC63
     have hC64:Ctx Fs.flatten w0 w24 (Ag (.slice (some ⟨b5,0,none⟩) 3 3) ([0,99,100]:List Int)::[Ac pb1 [u1,(I x10.2.2.1),(I x10.2.2.2)],Ag v1 (x3:(List Int)),Ac b2 [(I x2),v1,(I x4),(I x5),(I x6)],Ac b1 [(I 0),(.slice none 0 0),(I 0),(I 0),(I 0)]]):=hC63.rowOwn (by simp [maxLen])
     refine be hr10 fun x42 hr11 hr10=>have hC65:=hC64.f1;?_
     obtain ⟨Fs5,hH5,hn6,hF5,hO5,hb6⟩:=AS (As:=[Ag (.slice (some ⟨b5,0,none⟩) 3 3) ([0,99,100]:(List Int)),Ag v1 (x3:(List Int)),Ac b2 [(I x2),v1,(I x4),(I x5),(I x6)],Ac b1 [(I 0),(.slice none 0 0),(I 0),(I 0),(I 0)]]) [Ac pb1 [u1,(I x10.2.2.1),(I x10.2.2.2)]] hC65
     refine AJ BY z z (c_S_l1PickInt pb1 (a1.1,x10.2.2.1,x10.2.2.2) u1 (AX g1 hC65.keep hF5) ([0,99,100]) (.slice (some ⟨b5,0,none⟩) 3 3) (hO5 0 _ _ _ z) hH5 hn6 x42 hr11) ?_
     rintro _ w25 ⟨rfl,hq10⟩
     have hC66:Ctx Fs.flatten w0 w25 [Ac pb1 [u1,(I x42.2.2.1),(I x42.2.2.2)],Ag (.slice (some ⟨b5,0,none⟩) 3 3) ([0,99,100]:(List Int)),Ag v1 (x3:(List Int)),Ac b2 [(I x2),v1,(I x4),(I x5),(I x6)],Ac b1 [(I 0),(.slice none 0 0),(I 0),(I 0),(I 0)]]:=hb6 _ _ hq10
     refine fd AP Ax z z z z<|Bc (cs':=[(I x2),v1,(I x4),(I x5),(I x42.1)]) hC66 3 z z z z Ax z z fun w26 hC67 hKp5=>?_
     try dsimp only [List.set] at hC67
     refine Ab ?_
     obtain rfl:=Aa hr10
     have hC68:=hC67.f4
     have hC69:=hC68.f4
     have hC70:=hC69.f4
     have hC71:=hC70.f3
     have hC72:=hC71.h4
     exact Ay (l':=[(4,(ptr b1 0)),(5,(ptr b2 0))]) ⟨z,z,Ak⟩<|⟨x42.2.2.1,x42.2.2.2,x2,v1,x3,x4,x5,x42.1,z,z,hC72⟩
    replace hr10:=AE hr10 hc4
    refine Ad<|BP z z z<|Af z z<|Ab<|be hr10 fun r6 hr12 hr10=>Bx (fun l w=>∃x43:Int,∃x44:Int,∃x45:Int,∃v10:Value,∃x46:(List Int),∃x47:Int,∃x48:Int,∃x49:Int,(x43,x44,x45,x46,x47,x48,x49)=r6∧l=[(4,(ptr b1 0)),(5,(ptr b2 0))]∧Ctx Fs.flatten w0 w [Ac pb1 [u1,(I x43),(I x44)],Ag v10 (x46:(List Int)),Ac b2 [(I x45),v10,(I x47),(I x48),(I x49)],Ac b1 [(I 0),(.slice none 0 0),(I 0),(I 0),(I 0)]]) ?_ ?_
    ·refine AL z (fun hc5=>?_) (fun hc5=>?_)
     ·replace hr12:=AD hr12 hc5
      refine Bt<|Ae z z<|AN (vs:=[(I (-1)),(I 99),(I 100)]) hC16 Ap ty3 z z z z (fac z<|fac z<|fac z<|fa0) z z fun b6 w28 hC74 hB16=>?_
      have hC75:=hC74.row0 (α:=Int)
      have hC76:=hC75.triv (Bv (100))
      have hC77:=hC76.row1
      have hC78:=hC77.triv (Bv (99))
      have hC79:=hC78.row1
      have hC80:=hC79.triv (Bv ((-1)))
      have hC81:=hC80.row1
      have hC82:=hC81.front 1 z
      dsimp only [List.eraseIdx,List.cons_append,List.nil_append,List.append_nil] at hC82
      have hC83:Ctx Fs.flatten w0 w28 (Ag (.slice (some ⟨b6,0,none⟩) 3 3) ([(-1),99,100]:List Int)::[Ac pb1 [u1,(I x10.2.2.1),(I x10.2.2.2)],Ag v1 (x3:(List Int)),Ac b2 [(I x2),v1,(I x4),(I x5),(I x6)],Ac b1 [(I 0),(.slice none 0 0),(I 0),(I 0),(I 0)]]):=hC82.rowOwn (by simp [maxLen])
      refine be hr12 fun x50 hr13 hr12=>have hC84:=hC83.f1;?_
      obtain ⟨Fs6,hH6,hn7,hF6,hO6,hb7⟩:=AS (As:=[Ag (.slice (some ⟨b6,0,none⟩) 3 3) ([(-1),99,100]:(List Int)),Ag v1 (x3:(List Int)),Ac b2 [(I x2),v1,(I x4),(I x5),(I x6)],Ac b1 [(I 0),(.slice none 0 0),(I 0),(I 0),(I 0)]]) [Ac pb1 [u1,(I x10.2.2.1),(I x10.2.2.2)]] hC84
      refine AJ BY z z (c_S_l1PickInt pb1 (a1.1,x10.2.2.1,x10.2.2.2) u1 (AX g1 hC84.keep hF6) ([(-1),99,100]) (.slice (some ⟨b6,0,none⟩) 3 3) (hO6 0 _ _ _ z) hH6 hn7 x50 hr13) ?_
      rintro _ w29 ⟨rfl,hq12⟩
      have hC85:Ctx Fs.flatten w0 w29 [Ac pb1 [u1,(I x50.2.2.1),(I x50.2.2.2)],Ag (.slice (some ⟨b6,0,none⟩) 3 3) ([(-1),99,100]:(List Int)),Ag v1 (x3:(List Int)),Ac b2 [(I x2),v1,(I x4),(I x5),(I x6)],Ac b1 [(I 0),(.slice none 0 0),(I 0),(I 0),(I 0)]]:=hb7 _ _ hq12
      refine fd AP Ax z z z z<|Bc (cs':=[(I x2),v1,(I x4),(I x50.1),(I x6)]) hC85 3 z z z z Ax z z fun w30 hC86 hKp6=>?_
      try dsimp only [List.set] at hC86
      refine Ab ?_
      obtain rfl:=Aa hr12
      have hC87:=hC86.f4
      have hC88:=hC87.f4
      have hC89:=hC88.f4
      have hC90:=hC89.f3
      have hC91:=hC90.h4
      exact Ay (l':=[(4,(ptr b1 0)),(5,(ptr b2 0))]) ⟨z,z,Ak⟩<|⟨x50.2.2.1,x50.2.2.2,x2,v1,x3,x4,x50.1,x6,z,z,hC91⟩
     replace hr12:=AE hr12 hc5
     refine AM ?_
     obtain rfl:=Aa hr12
     exact Ay (l':=[(4,(ptr b1 0)),(5,(ptr b2 0))]) ⟨z,z,Ak⟩<|⟨x10.2.2.1,x10.2.2.2,x2,v1,x3,x4,x5,x6,z,z,hC16⟩
    rintro l6 _ w27 hs6 ⟨x43,x44,x45,v10,x46,x47,x48,x49,rfl,rfl,hC73⟩
    try dsimp only at hr10
    obtain rfl:=Aa hr10
    exact Cn (l2:=[(4,(ptr b1 0)),(5,(ptr b2 0))]) hs6 ⟨z,z,Ak⟩<|⟨x43,x44,x45,v10,x46,x47,x48,x49,z,z,hC73⟩
   rintro l5 _ w23 hs5 ⟨x35,x36,x37,v9,x38,x39,x40,x41,rfl,rfl,hC54⟩
   try dsimp only at hr7
   obtain rfl:=Aa hr7
   exact Cn (l2:=[(4,(ptr b1 0)),(5,(ptr b2 0))]) hs5 ⟨z,z,Ak⟩<|⟨x35,x36,x37,v9,x38,x39,x40,x41,z,z,hC54⟩
  rintro l3 _ w14 hs3 ⟨x19,x20,x21,v5,x22,x23,x24,x25,rfl,rfl,hC36⟩
  try dsimp only at hr5
  obtain rfl:=Aa hr5
  exact Cn (l2:=[(4,(ptr b1 0)),(5,(ptr b2 0))]) hs3 ⟨z,z,Ak⟩<|⟨x19,x20,x21,v5,x22,x23,x24,x25,z,z,hC36⟩
 rintro l2 _ w10 hs2 ⟨x11,x12,x13,v4,x14,x15,x16,x17,rfl,rfl,hC17⟩
 try dsimp only at hF
 refine Bg<|Bm hs2<|?_
 clear hs2
 refine Ad<|At [(I x13),v4,(I x15),(I x16),(I x17)] hC17 2 z z z Ce BC z z<|Aj (cs':=[(I x13),v4,(I x15),(I x16),(I x17)]) (new:=[(I x13),v4,(I x15),(I x16),(I x17)]) hC17 3 z z (fac z<|fac (AT (hC17.ro 1 z))<|fac z<|fac z<|fac z<|fa0) z BC z z fun w31 hC92 hKp7=>?_
 try dsimp only [List.set] at hC92
 refine Ab (AK ?_)
 obtain rfl:=Aa hF
 refine BR z (rv_cell_agg (cs':=[(I x13),v4,(I x15),(I x16),(I x17)]) hC92 (i:=3) z z z Ce BC z)<|have hC94:=hC92.f1;?_
 have hC93:=own_st93 x13 v4 x14 x15 x16 x17 hC94
 have hC95:=hC93.h2
 exact ⟨_,z,_,z,hC95⟩
theorem c_S_l2AnyFact {w0:World} {Fs:List (List Nat)} (pb1:Nat) (a1:((List UInt8) × Int × Int)) (u1:Value) (g1:RO Fs.flatten w0 u1 a1.1) (a2:(List Int)) (u2:Value) (g2:RO Fs.flatten w0 u2 a2) (hH:Hold [Ac pb1 [u1,(I a1.2.1),(I a1.2.2)]] w0 Fs) (hn:Fs.flatten.Nodup) (rr:((Int × (List Int)) × ((List UInt8) × Int × Int))) (hF:S.l2AnyFact a1 a2=some rr) :
 Calls Tryz.prog 30 [(ptr pb1 0),u2].toArray w0 fun e w'=>∃v,e=.returned v∧∃q0:Value,v=q0∧Ctx Fs.flatten w0 w' [Ag q0 (rr.1:(Int × (List Int))),Ac pb1 [u1,(I rr.2.2.1),(I rr.2.2.2)]]:=by
 refine A3 Tryz.func30 z z ?_
 have hC0:=B6 hH hn
 unfold S.l2AnyFact at hF
 refine Ad<|Bd hC0 zero29 z z fun b1 w1 hC1 hB1 hN1=>Ab<|Ad<|AN (vs:=[(I 1)]) hC1 Ap ty3 z z z z (fac z<|fa0) z z fun b2 w2 hC2 hB2=>?_
 have hC3:=hC2.row0 (α:=Int)
 have hC4:=hC3.triv (Bv (1))
 have hC5:=hC4.row1
 have hC6:=hC5.front 1 z
 dsimp only [List.eraseIdx,List.cons_append,List.nil_append,List.append_nil] at hC6
 have hC7:Ctx Fs.flatten w0 w2 (Ag (.slice (some ⟨b2,0,none⟩) 1 1) ([1]:List Int)::[Ac b1 [(I 0),(.slice none 0 0)],Ac pb1 [u1,(I a1.2.1),(I a1.2.2)]]):=hC6.rowOwn (by simp [maxLen])
 refine BD (vs:=[(1,(.slice (some ⟨b2,0,none⟩) 1 1))]) z z z (built29_1 (Ca (hC7.ro 0 z)))<|Bd hC7 zero29 z z fun b3 w3 hC8 hB3 hN2=>Aj (cs':=[(I 0),(.slice (some ⟨b2,0,none⟩) 1 1)]) (new:=[(I 0),(.slice (some ⟨b2,0,none⟩) 1 1)]) hC8 0 z z (fac z<|fac (AT (hC8.ro 1 z))<|fa0) z AQ z z fun w4 hC9 hKp1=>?_
 try dsimp only [List.set] at hC9
 have hk1:=Ar (((Al hB1).then hB2).then hB3) (Ao ((Al hB1).then hB2).size hN2) hKp1
 have hk2:=Ar ((Al hB2).then hB3) (Ao (Al hB2).size hN2) hKp1
 have hk3:=Ar (Al hB3) hN2 hKp1
 refine Ab<|AA<|Ad<|Ae z z<|be hF fun x1 hr1 hF=>cb Cm z z (c_S_IsSchema a2 u2 (g2.now hC9.keep) x1 hr1) fun w5 hB4=>have hC10:=hC9.grow hB4;Ab<|be hF fun r1 hr2 hF=>Bx (fun l w=>∃x2:Int,∃v1:Value,∃x3:(List Int),∃x4:Int,∃x5:Int,(x2,x3,x4,x5)=r1∧l=[(0,(ptr pb1 0)),(4,(ptr b1 0)),(5,(ptr b3 0))]∧Ctx Fs.flatten w0 w [Ac b3 [(I x2),v1],Ag v1 (x3:(List Int)),Ac b1 [(I 0),(.slice none 0 0)],Ac pb1 [u1,(I x4),(I x5)]]) ?_ ?_
 ·refine AL z (fun hc1=>?_) (fun hc1=>?_)
  ·replace hr2:=AD hr2 hc1
   refine Bt<|Ae z z<|Ae z z<|be hr2 fun x6 hr3 hr2=>have hC12:=hC10.f3;?_
   obtain ⟨Fs1,hH1,hn1,hF1,hO1,hb1⟩:=AS (As:=[Ac b3 [(I 0),(.slice (some ⟨b2,0,none⟩) 1 1)],Ag (.slice (some ⟨b2,0,none⟩) 1 1) ([1]:(List Int)),Ac b1 [(I 0),(.slice none 0 0)]]) [Ac pb1 [u1,(I a1.2.1),(I a1.2.2)]] hC12
   refine AJ Tryz.call66 z z (c_S_l2Fact pb1 (a1.1,a1.2.1,a1.2.2) u1 (AX g1 hC12.keep hF1) a2 u2 (AX g2 hC12.keep hF1) 10 hH1 hn1 x6 hr3) ?_
   rintro v2 w7 ⟨_,rfl,hq1⟩
   have hC13:Ctx Fs.flatten w0 w7 [Ag v2 (x6.1:(Int × (List Int))),Ac pb1 [u1,(I x6.2.2.1),(I x6.2.2.2)],Ac b3 [(I 0),(.slice (some ⟨b2,0,none⟩) 1 1)],Ag (.slice (some ⟨b2,0,none⟩) 1 1) ([1]:(List Int)),Ac b1 [(I 0),(.slice none 0 0)]]:=hb1 _ _ hq1
   obtain ⟨v3,rfl,hC14⟩:=st29_own hC13
   refine Aj (cs':=[(I x6.1.1),v3]) (new:=[(I x6.1.1),v3]) hC14 2 z z (fac z<|fac (AT (hC14.ro 0 z))<|fa0) z AQ z z (fun w9 hC15 hKp2=>?_)
   try dsimp only [List.set] at hC15
   refine Ab ?_
   obtain rfl:=Aa hr2
   have hC16:=hC15.f1
   have hC17:=hC16.f4
   have hC18:=hC17.f2
   have hC19:=hC18.f3
   have hC20:=hC19.h4
   exact Ay (l':=[(0,(ptr pb1 0)),(4,(ptr b1 0)),(5,(ptr b3 0))]) ⟨z,z,z,Ak⟩<|⟨x6.1.1,v3,x6.1.2,x6.2.2.1,x6.2.2.2,z,z,hC20⟩
  replace hr2:=AE hr2 hc1
  refine AM ?_
  obtain rfl:=Aa hr2
  exact Ay (l':=[(0,(ptr pb1 0)),(4,(ptr b1 0)),(5,(ptr b3 0))]) ⟨z,z,z,Ak⟩<|⟨0,(.slice (some ⟨b2,0,none⟩) 1 1),[1],a1.2.1,a1.2.2,z,z,hC10⟩
 rintro l1 _ w6 hs1 ⟨x2,v1,x3,x4,x5,rfl,rfl,hC11⟩
 try dsimp only at hF
 refine Bm hs1 ?_
 clear hs1
 refine AA<|Ad<|Ae z z<|be hF fun x7 hr4 hF=>have hC21:=hC11.f3;?_
 obtain ⟨Fs2,hH2,hn2,hF2,hO2,hb2⟩:=AS (As:=[Ac b3 [(I x2),v1],Ag v1 (x3:(List Int)),Ac b1 [(I 0),(.slice none 0 0)]]) [Ac pb1 [u1,(I x4),(I x5)]] hC21
 refine AJ B0 z z (c_S_l1Below pb1 (a1.1,x4,x5) u1 (AX g1 hC21.keep hF2) 8 hH2 hn2 x7 hr4) ?_
 rintro _ w10 ⟨rfl,hq4⟩
 have hC22:Ctx Fs.flatten w0 w10 [Ac pb1 [u1,(I x7.2.2.1),(I x7.2.2.2)],Ac b3 [(I x2),v1],Ag v1 (x3:(List Int)),Ac b1 [(I 0),(.slice none 0 0)]]:=hb2 _ _ hq4
 refine Ab<|Bb<|Ad<|BP z z z<|Af z z<|Ab<|be hF fun r2 hr5 hF=>Bx (fun l w=>∃x8:Int,∃x9:Int,∃x10:Int,∃v4:Value,∃x11:(List Int),(x8,x9,x10,x11)=r2∧l=[(4,(ptr b1 0)),(5,(ptr b3 0))]∧Ctx Fs.flatten w0 w [Ac pb1 [u1,(I x8),(I x9)],Ac b3 [(I x10),v4],Ag v4 (x11:(List Int)),Ac b1 [(I 0),(.slice none 0 0)]]) ?_ ?_
 ·refine AL z (fun hc2=>?_) (fun hc2=>?_)
  ·replace hr5:=AD hr5 hc2
   refine Bt<|Ae z z<|be hr5 fun x12 hr6 hr5=>?_
   obtain ⟨Fs3,hH3,hn3,hF3,hO3,hb3⟩:=AS (As:=[Ac b3 [(I x2),v1],Ag v1 (x3:(List Int)),Ac b1 [(I 0),(.slice none 0 0)]]) [Ac pb1 [u1,(I x7.2.2.1),(I x7.2.2.2)]] hC22
   refine AJ B0 z z (c_S_l1Below pb1 (a1.1,x7.2.2.1,x7.2.2.2) u1 (AX g1 hC22.keep hF3) 5 hH3 hn3 x12 hr6) ?_
   rintro _ w12 ⟨rfl,hq5⟩
   have hC24:Ctx Fs.flatten w0 w12 [Ac pb1 [u1,(I x12.2.2.1),(I x12.2.2.2)],Ac b3 [(I x2),v1],Ag v1 (x3:(List Int)),Ac b1 [(I 0),(.slice none 0 0)]]:=hb3 _ _ hq5
   refine BV z z z<|fd A1 Ax z z z z<|Bc (cs':=[(I (w64 (x12.1 - 1))),v1]) hC24 1 z z z z Ax z z fun w13 hC25 hKp3=>?_
   try dsimp only [List.set] at hC25
   refine Ab ?_
   obtain rfl:=Aa hr5
   exact Ay (l':=[(4,(ptr b1 0)),(5,(ptr b3 0))]) ⟨z,z,Ak⟩<|⟨x12.2.2.1,x12.2.2.2,w64 (x12.1 - 1),v1,x3,z,z,hC25⟩
  replace hr5:=AE hr5 hc2
  refine Ad<|BP z z z<|Af z z<|Ab<|be hr5 fun r3 hr7 hr5=>Bx (fun l w=>∃x13:Int,∃x14:Int,∃x15:Int,∃v5:Value,∃x16:(List Int),(x13,x14,x15,x16)=r3∧l=[(4,(ptr b1 0)),(5,(ptr b3 0))]∧Ctx Fs.flatten w0 w [Ac pb1 [u1,(I x13),(I x14)],Ac b3 [(I x15),v5],Ag v5 (x16:(List Int)),Ac b1 [(I 0),(.slice none 0 0)]]) ?_ ?_
  ·refine AL z (fun hc3=>?_) (fun hc3=>?_)
   ·replace hr7:=AD hr7 hc3
    refine be hr7 fun r4 hr8 hr7=>Bx (fun l w=>∃x17:(List Int),∃x18:Int,∃x19:Int,(x17,x18,x19)=r4∧l=[(4,(ptr b1 0)),(5,(ptr b3 0))]∧Ctx Fs.flatten w0 w [Ac pb1 [u1,(I x18),(I x19)],Ac b3 [(I x2),v1],Ag v1 (x17:(List Int)),Ac b1 [(I 0),(.slice none 0 0)]]) ?_ ?_
    ·refine W_drawn 7 z hmix fun w16 hB9=>have hC28:=hC22.grow hB9;tf 0 A1 A4 z z z z z<|tm 2 z z z<|Ci (i:=1) (j:=3) (by kernel_rfl) z z ?_ ?_
     ·refine Aq hC28 1 z z AU z z<|Ab<|oe 3 z<|AN (vs:=[(I (-1)),(I 9),(I 10)]) hC28 Ap ty3 z z z z (fac z<|fac z<|fac z<|fa0) z z fun b4 w17 hC29 hB10=>?_
      have hC30:=hC29.row0 (α:=Int)
      have hC31:=hC30.triv (Bv (10))
      have hC32:=hC31.row1
      have hC33:=hC32.triv (Bv (9))
      have hC34:=hC33.row1
      have hC35:=hC34.triv (Bv ((-1)))
      have hC36:=hC35.row1
      have hC37:=hC36.front 1 z
      dsimp only [List.eraseIdx,List.cons_append,List.nil_append,List.append_nil] at hC37
      have hC38:Ctx Fs.flatten w0 w17 (Ag (.slice (some ⟨b4,0,none⟩) 3 3) ([(-1),9,10]:List Int)::[Ac pb1 [u1,(I x7.2.2.1),(I x7.2.2.2)],Ac b3 [(I x2),v1],Ag v1 (x3:(List Int)),Ac b1 [(I 0),(.slice none 0 0)]]):=hC37.rowOwn (by simp [maxLen])
      refine Ab<|be hr8 fun x20 hr9 hr8=>oe 4 z<|have hC39:=hC38.f1;?_
      obtain ⟨Fs4,hH4,hn4,hF4,hO4,hb4⟩:=AS (As:=[Ag (.slice (some ⟨b4,0,none⟩) 3 3) ([(-1),9,10]:(List Int)),Ac b3 [(I x2),v1],Ag v1 (x3:(List Int)),Ac b1 [(I 0),(.slice none 0 0)]]) [Ac pb1 [u1,(I x7.2.2.1),(I x7.2.2.2)]] hC39
      refine AJ BY z z (c_S_l1PickInt pb1 (a1.1,x7.2.2.1,x7.2.2.2) u1 (AX g1 hC39.keep hF4) ([(-1),9,10]) (.slice (some ⟨b4,0,none⟩) 3 3) (hO4 0 _ _ _ z) hH4 hn4 x20 hr9) ?_
      rintro _ w18 ⟨rfl,hq7⟩
      have hC40:Ctx Fs.flatten w0 w18 [Ac pb1 [u1,(I x20.2.2.1),(I x20.2.2.2)],Ag (.slice (some ⟨b4,0,none⟩) 3 3) ([(-1),9,10]:(List Int)),Ac b3 [(I x2),v1],Ag v1 (x3:(List Int)),Ac b1 [(I 0),(.slice none 0 0)]]:=hb4 _ _ hq7
      refine Ab<|be hr8 fun x21 hx1 hr8=>tk 5 z z (fl_index_own hC40 3 z Ap ty3 hx1 z z)<|WL_index_own hC40 3 z Ap ty3 hx1 z z z fun b5 hE1=>Ab<|oe 6 z<|?_
      have hC42:=hC40.triv (Bv (x20.1))
      refine WL_store_elem hC42 3 z ty3 hE1 hx1 z z z (fun w19 hC41=>?_)
      try dsimp only [List.set] at hC41
      refine Ab<|dn<|?_
      obtain rfl:=Aa hr8
      have hC43:=hC41.f4
      have hC44:=hC43.f4
      have hC45:=hC44.f4
      have hC46:=hC45.f3
      have hC47:=hC46.h4
      exact Ay (l':=[(4,(ptr b1 0)),(5,(ptr b3 0))]) ⟨z,z,Ak⟩<|⟨(List.set x3 (Int.toNat 0) x20.1),x20.2.2.1,x20.2.2.2,z,z,hC47⟩
     refine AN (vs:=[(I (-1)),(I 9),(I 10)]) hC28 Ap ty3 z z z z (fac z<|fac z<|fac z<|fa0) z z (fun b4 w17 hC29 hB10=>?_)
     have hC30:=hC29.row0 (α:=Int)
     have hC31:=hC30.triv (Bv (10))
     have hC32:=hC31.row1
     have hC33:=hC32.triv (Bv (9))
     have hC34:=hC33.row1
     have hC35:=hC34.triv (Bv ((-1)))
     have hC36:=hC35.row1
     have hC37:=hC36.front 1 z
     dsimp only [List.eraseIdx,List.cons_append,List.nil_append,List.append_nil] at hC37
     have hC38:Ctx Fs.flatten w0 w17 (Ag (.slice (some ⟨b4,0,none⟩) 3 3) ([(-1),9,10]:List Int)::[Ac pb1 [u1,(I x7.2.2.1),(I x7.2.2.2)],Ac b3 [(I x2),v1],Ag v1 (x3:(List Int)),Ac b1 [(I 0),(.slice none 0 0)]]):=hC37.rowOwn (by simp [maxLen])
     refine Ab<|Ci (i:=1) (j:=4) (by kernel_rfl) z z ?_ ?_
     ·refine Aq hC38 2 z z AU z z<|Ab<|be hr8 fun x20 hr9 hr8=>oe 4 z<|have hC39:=hC38.f1;?_
      obtain ⟨Fs4,hH4,hn4,hF4,hO4,hb4⟩:=AS (As:=[Ag (.slice (some ⟨b4,0,none⟩) 3 3) ([(-1),9,10]:(List Int)),Ac b3 [(I x2),v1],Ag v1 (x3:(List Int)),Ac b1 [(I 0),(.slice none 0 0)]]) [Ac pb1 [u1,(I x7.2.2.1),(I x7.2.2.2)]] hC39
      refine AJ BY z z (c_S_l1PickInt pb1 (a1.1,x7.2.2.1,x7.2.2.2) u1 (AX g1 hC39.keep hF4) ([(-1),9,10]) (.slice (some ⟨b4,0,none⟩) 3 3) (hO4 0 _ _ _ z) hH4 hn4 x20 hr9) ?_
      rintro _ w18 ⟨rfl,hq7⟩
      have hC40:Ctx Fs.flatten w0 w18 [Ac pb1 [u1,(I x20.2.2.1),(I x20.2.2.2)],Ag (.slice (some ⟨b4,0,none⟩) 3 3) ([(-1),9,10]:(List Int)),Ac b3 [(I x2),v1],Ag v1 (x3:(List Int)),Ac b1 [(I 0),(.slice none 0 0)]]:=hb4 _ _ hq7
      refine Ab<|be hr8 fun x21 hx1 hr8=>tk 5 z z (fl_index_own hC40 3 z Ap ty3 hx1 z z)<|WL_index_own hC40 3 z Ap ty3 hx1 z z z fun b5 hE1=>Ab<|oe 6 z<|?_
      have hC42:=hC40.triv (Bv (x20.1))
      refine WL_store_elem hC42 3 z ty3 hE1 hx1 z z z (fun w19 hC41=>?_)
      try dsimp only [List.set] at hC41
      refine Ab<|dn<|?_
      obtain rfl:=Aa hr8
      have hC43:=hC41.f4
      have hC44:=hC43.f4
      have hC45:=hC44.f4
      have hC46:=hC45.f3
      have hC47:=hC46.h4
      exact Ay (l':=[(4,(ptr b1 0)),(5,(ptr b3 0))]) ⟨z,z,Ak⟩<|⟨(List.set x3 (Int.toNat 0) x20.1),x20.2.2.1,x20.2.2.2,z,z,hC47⟩
     refine be hr8 fun x20 hr9 hr8=>have hC39:=hC38.f1;?_
     obtain ⟨Fs4,hH4,hn4,hF4,hO4,hb4⟩:=AS (As:=[Ag (.slice (some ⟨b4,0,none⟩) 3 3) ([(-1),9,10]:(List Int)),Ac b3 [(I x2),v1],Ag v1 (x3:(List Int)),Ac b1 [(I 0),(.slice none 0 0)]]) [Ac pb1 [u1,(I x7.2.2.1),(I x7.2.2.2)]] hC39
     refine AJ BY z z (c_S_l1PickInt pb1 (a1.1,x7.2.2.1,x7.2.2.2) u1 (AX g1 hC39.keep hF4) ([(-1),9,10]) (.slice (some ⟨b4,0,none⟩) 3 3) (hO4 0 _ _ _ z) hH4 hn4 x20 hr9) ?_
     rintro _ w18 ⟨rfl,hq7⟩
     have hC40:Ctx Fs.flatten w0 w18 [Ac pb1 [u1,(I x20.2.2.1),(I x20.2.2.2)],Ag (.slice (some ⟨b4,0,none⟩) 3 3) ([(-1),9,10]:(List Int)),Ac b3 [(I x2),v1],Ag v1 (x3:(List Int)),Ac b1 [(I 0),(.slice none 0 0)]]:=hb4 _ _ hq7
     refine Ab<|oe 1 z<|Aq hC40 2 z z AU z z<|Ab<|be hr8 fun x21 hx1 hr8=>tk 5 z z (fl_index_own hC40 3 z Ap ty3 hx1 z z)<|WL_index_own hC40 3 z Ap ty3 hx1 z z z fun b5 hE1=>Ab<|oe 6 z<|?_
     have hC42:=hC40.triv (Bv (x20.1))
     refine WL_store_elem hC42 3 z ty3 hE1 hx1 z z z (fun w19 hC41=>?_)
     try dsimp only [List.set] at hC41
     refine Ab<|dn<|?_
     obtain rfl:=Aa hr8
     have hC43:=hC41.f4
     have hC44:=hC43.f4
     have hC45:=hC44.f4
     have hC46:=hC45.f3
     have hC47:=hC46.h4
     exact Ay (l':=[(4,(ptr b1 0)),(5,(ptr b3 0))]) ⟨z,z,Ak⟩<|⟨(List.set x3 (Int.toNat 0) x20.1),x20.2.2.1,x20.2.2.2,z,z,hC47⟩
    rintro l4 _ w15 hs4 ⟨x17,x18,x19,rfl,rfl,hC27⟩
    try dsimp only at hr7
    obtain rfl:=Aa hr7
    exact Cn (l2:=[(4,(ptr b1 0)),(5,(ptr b3 0))]) hs4 ⟨z,z,Ak⟩<|⟨x18,x19,x2,v1,x17,z,z,hC27⟩
   replace hr7:=AE hr7 hc3
   refine Ad<|BP z z z<|Af z z<|Ab<|be hr7 fun r5 hr10 hr7=>Bx (fun l w=>∃x22:Int,∃v6:Value,∃x23:(List Int),(x22,x23)=r5∧l=[(4,(ptr b1 0)),(5,(ptr b3 0))]∧Ctx Fs.flatten w0 w [Ac pb1 [u1,(I x7.2.2.1),(I x7.2.2.2)],Ac b3 [(I x22),v6],Ag v6 (x23:(List Int)),Ac b1 [(I 0),(.slice none 0 0)]]) ?_ ?_
   ·refine AL z (fun hc4=>?_) (fun hc4=>?_)
    ·replace hr10:=AD hr10 hc4
     refine Bt<|fd A1 A4 z z z z<|Aq hC22 1 z z AU z z<|AN (vs:=[(I 1)]) hC22 Ap ty3 z z z z (fac z<|fa0) z z fun b6 w21 hC49 hB12=>?_
     have hC50:=hC49.row0 (α:=Int)
     have hC51:=hC50.triv (Bv (1))
     have hC52:=hC51.row1
     have hC53:=hC52.front 1 z
     dsimp only [List.eraseIdx,List.cons_append,List.nil_append,List.append_nil] at hC53
     have hC54:Ctx Fs.flatten w0 w21 (Ag (.slice (some ⟨b6,0,none⟩) 1 1) ([1]:List Int)::[Ac pb1 [u1,(I x7.2.2.1),(I x7.2.2.2)],Ac b3 [(I x2),v1],Ag v1 (x3:(List Int)),Ac b1 [(I 0),(.slice none 0 0)]]):=hC53.rowOwn (by simp [maxLen])
     refine be hr10 fun x24 hx2 hr10=>BN (α:=Int) hC54 3 z (hC54.ro 0 z) (B5 _ _) Ap ty3 z hx2 z z z fun v7 w22 hC55=>?_
     try dsimp only [List.set] at hC55
     refine fd A1 A4 z z z z<|Bc (cs':=[(I x2),v7]) hC55 2 z z (AT (hC55.ro 3 z)) z A4 z z fun w23 hC56 hKp5=>?_
     try dsimp only [List.set] at hC56
     refine Ab ?_
     obtain rfl:=Aa hr10
     have hC57:=hC56.f4
     have hC58:=hC57.f4
     have hC59:=hC58.f4
     have hC60:=hC59.f4
     have hC61:=hC60.h4
     exact Ay (l':=[(4,(ptr b1 0)),(5,(ptr b3 0))]) ⟨z,z,Ak⟩<|⟨x2,v7,x24,z,z,hC61⟩
    replace hr10:=AE hr10 hc4
    refine AM ?_
    obtain rfl:=Aa hr10
    exact Ay (l':=[(4,(ptr b1 0)),(5,(ptr b3 0))]) ⟨z,z,Ak⟩<|⟨x2,v1,x3,z,z,hC22⟩
   rintro l5 _ w20 hs5 ⟨x22,v6,x23,rfl,rfl,hC48⟩
   try dsimp only at hr7
   obtain rfl:=Aa hr7
   exact Cn (l2:=[(4,(ptr b1 0)),(5,(ptr b3 0))]) hs5 ⟨z,z,Ak⟩<|⟨x7.2.2.1,x7.2.2.2,x22,v6,x23,z,z,hC48⟩
  rintro l3 _ w14 hs3 ⟨x13,x14,x15,v5,x16,rfl,rfl,hC26⟩
  try dsimp only at hr5
  obtain rfl:=Aa hr5
  exact Cn (l2:=[(4,(ptr b1 0)),(5,(ptr b3 0))]) hs3 ⟨z,z,Ak⟩<|⟨x13,x14,x15,v5,x16,z,z,hC26⟩
 rintro l2 _ w11 hs2 ⟨x8,x9,x10,v4,x11,rfl,rfl,hC23⟩
 try dsimp only at hF
 refine Bg<|Bm hs2<|?_
 clear hs2
 refine Ad<|At [(I x10),v4] hC23 1 z z z By AQ z z<|Aj (cs':=[(I x10),v4]) (new:=[(I x10),v4]) hC23 3 z z (fac z<|fac (AT (hC23.ro 2 z))<|fa0) z AQ z z fun w24 hC62 hKp6=>?_
 try dsimp only [List.set] at hC62
 refine Ab (AK ?_)
 obtain rfl:=Aa hF
 refine BR z (rv_cell_agg (cs':=[(I x10),v4]) hC62 (i:=3) z z z By AQ z)<|have hC64:=hC62.f2;?_
 have hC63:=Cj x10 v4 x11 hC64
 have hC65:=hC63.h2
 exact ⟨_,z,_,z,hC65⟩
theorem c_S_l2AnyFacts {w0:World} {Fs:List (List Nat)} (pb1:Nat) (a1:((List UInt8) × Int × Int)) (u1:Value) (g1:RO Fs.flatten w0 u1 a1.1) (a2:(List Int)) (u2:Value) (g2:RO Fs.flatten w0 u2 a2) (hH:Hold [Ac pb1 [u1,(I a1.2.1),(I a1.2.2)]] w0 Fs) (hn:Fs.flatten.Nodup) (rr:((List (Int × (List Int))) × ((List UInt8) × Int × Int))) (hF:S.l2AnyFacts a1 a2=some rr) :
 Calls Tryz.prog 91 [(ptr pb1 0),u2].toArray w0 fun e w'=>∃v,e=.returned v∧∃q0:Value,v=q0∧Ctx Fs.flatten w0 w' [Ag q0 (rr.1:(List (Int × (List Int)))),Ac pb1 [u1,(I rr.2.2.1),(I rr.2.2.2)]]:=by
 refine A3 Tryz.func91 z z ?_
 have hC0:=B6 hH hn
 unfold S.l2AnyFacts at hF
 refine Ad<|Af z z<|Ab<|Ad<|AN (vs:=[]) hC0 Ah ty29 z z z z (by simp) z z fun b1 w1 hC1 hB1=>?_
 have hC2:=hC1.row0 (α:=(Int × (List Int)))
 have hC3:=hC2.front 1 z
 dsimp only [List.eraseIdx,List.cons_append,List.nil_append,List.append_nil] at hC3
 have hC4:Ctx Fs.flatten w0 w1 (Ag (.slice (some ⟨b1,0,none⟩) 0 0) (([]:List (Int × (List Int))):List (Int × (List Int)))::[Ac pb1 [u1,(I a1.2.1),(I a1.2.2)]]):=hC3.rowOwn (by simp [maxLen])
 refine Af z z<|Ab<|AA<|Ad<|Ae z z<|be hF fun x1 hr1 hF=>cb Cm z z (c_S_IsSchema a2 u2 (g2.now hC4.keep) x1 hr1) fun w2 hB2=>have hC5:=hC4.grow hB2;Ab<|be hF fun r1 hr2 hF=>Bx (fun l w=>∃x2:Int,∃x3:Int,∃v1:Value,∃x4:(List (Int × (List Int))),(x2,x3,x4)=r1∧l=[(0,(ptr pb1 0)),(1,u2),(5,v1)]∧Ctx Fs.flatten w0 w [Ag v1 (x4:(List (Int × (List Int)))),Ac pb1 [u1,(I x2),(I x3)]]) ?_ ?_
 ·refine AL z (fun hc1=>?_) (fun hc1=>?_)
  ·replace hr2:=AD hr2 hc1
   refine Bt<|Ae z z<|Ae z z<|be hr2 fun x5 hr3 hr2=>have hC7:=hC5.f1;?_
   obtain ⟨Fs1,hH1,hn1,hF1,hO1,hb1⟩:=AS (As:=[Ag (.slice (some ⟨b1,0,none⟩) 0 0) (([]:List (Int × (List Int))):(List (Int × (List Int))))]) [Ac pb1 [u1,(I a1.2.1),(I a1.2.2)]] hC7
   refine AJ Tryz.call89 z z (c_S_l2Facts pb1 (a1.1,a1.2.1,a1.2.2) u1 (AX g1 hC7.keep hF1) a2 u2 (AX g2 hC7.keep hF1) 8 hH1 hn1 x5 hr3) ?_
   rintro v2 w4 ⟨_,rfl,hq1⟩
   have hC8:Ctx Fs.flatten w0 w4 [Ag v2 (x5.1:(List (Int × (List Int)))),Ac pb1 [u1,(I x5.2.2.1),(I x5.2.2.2)],Ag (.slice (some ⟨b1,0,none⟩) 0 0) (([]:List (Int × (List Int))):(List (Int × (List Int))))]:=hb1 _ _ hq1
   refine Af z z<|Ab<|?_
   obtain rfl:=Aa hr2
   have hC9:=hC8.f1
   have hC10:=hC9.f1
   have hC11:=hC10.h2
   exact Ay (l':=[(0,(ptr pb1 0)),(1,u2),(5,v2)]) ⟨z,z,z,Ak⟩<|⟨x5.2.2.1,x5.2.2.2,v2,x5.1,z,z,hC11⟩
  replace hr2:=AE hr2 hc1
  refine AM ?_
  obtain rfl:=Aa hr2
  exact Ay (l':=[(0,(ptr pb1 0)),(1,u2),(5,(.slice (some ⟨b1,0,none⟩) 0 0))]) ⟨z,z,z,Ak⟩<|⟨a1.2.1,a1.2.2,(.slice (some ⟨b1,0,none⟩) 0 0),([]:List (Int × (List Int))),z,z,hC5⟩
 rintro l1 _ w3 hs1 ⟨x2,x3,v1,x4,rfl,rfl,hC6⟩
 try dsimp only at hF
 refine Bm hs1 ?_
 clear hs1
 refine AA<|Ad<|Ae z z<|be hF fun x6 hr4 hF=>have hC12:=hC6.f1;?_
 obtain ⟨Fs2,hH2,hn2,hF2,hO2,hb2⟩:=AS (As:=[Ag v1 (x4:(List (Int × (List Int))))]) [Ac pb1 [u1,(I x2),(I x3)]] hC12
 refine AJ Ct z z (c_S_l1Once pb1 (a1.1,x2,x3) u1 (AX g1 hC12.keep hF2) 10 hH2 hn2 x6 hr4) ?_
 rintro _ w5 ⟨rfl,hq4⟩
 have hC13:Ctx Fs.flatten w0 w5 [Ac pb1 [u1,(I x6.2.2.1),(I x6.2.2.2)],Ag v1 (x4:(List (Int × (List Int))))]:=hb2 _ _ hq4
 refine Ab<|be hF fun r2 hr5 hF=>Bx (fun l w=>∃x7:Int,∃x8:Int,∃v3:Value,∃x9:(List (Int × (List Int))),(x7,x8,x9)=r2∧l=[(5,v3)]∧Ctx Fs.flatten w0 w [Ac pb1 [u1,(I x7),(I x8)],Ag v3 (x9:(List (Int × (List Int))))]) ?_ ?_
 ·refine AL z (fun hc2=>?_) (fun hc2=>?_)
  ·replace hr5:=AD hr5 hc2
   refine Bt<|Ae z z<|Ae z z<|Ae z z<|be hr5 fun x10 hr6 hr5=>?_
   obtain ⟨Fs3,hH3,hn3,hF3,hO3,hb3⟩:=AS (As:=[Ag v1 (x4:(List (Int × (List Int))))]) [Ac pb1 [u1,(I x6.2.2.1),(I x6.2.2.2)]] hC13
   refine AJ Tryz.call30 z z (c_S_l2AnyFact pb1 (a1.1,x6.2.2.1,x6.2.2.2) u1 (AX g1 hC13.keep hF3) a2 u2 (AX g2 hC13.keep hF3) hH3 hn3 x10 hr6) ?_
   rintro v4 w7 ⟨_,rfl,hq5⟩
   have hC15:Ctx Fs.flatten w0 w7 [Ag v4 (x10.1:(Int × (List Int))),Ac pb1 [u1,(I x10.2.2.1),(I x10.2.2.2)],Ag v1 (x4:(List (Int × (List Int))))]:=hb3 _ _ hq5
   obtain ⟨v5,rfl,hC16⟩:=st29_own hC15
   refine AN (vs:=[(.agg #[(I x10.1.1),v5])]) hC16 Ah ty29 z z z z (fac z<|fa0) z z (fun b2 w9 hC17 hB5=>?_)
   have hC18:=hC17.row0 (α:=(Int × (List Int)))
   have hC20:=hC18.f2
   have hC19:=Cj x10.1.1 v5 x10.1.2 hC20
   have hC21:=hC19.row1
   have hC22:=hC21.front 1 z
   dsimp only [List.eraseIdx,List.cons_append,List.nil_append,List.append_nil] at hC22
   have hC23:Ctx Fs.flatten w0 w9 (Ag (.slice (some ⟨b2,0,none⟩) 1 1) ([(x10.1.1,x10.1.2)]:List (Int × (List Int)))::[Ac pb1 [u1,(I x10.2.2.1),(I x10.2.2.2)],Ag v1 (x4:(List (Int × (List Int))))]):=hC22.rowOwn (by simp [maxLen])
   refine be hr5 fun x11 hx1 hr5=>BA hC23 1 z Ah ty29 z hx1 z z z fun v6 w10 hC24=>?_
   try dsimp only [List.set] at hC24
   refine Af z z<|Ab<|?_
   obtain rfl:=Aa hr5
   exact Ay (l':=[(5,v6)]) ⟨z,Ak⟩<|⟨x10.2.2.1,x10.2.2.2,v6,x11,z,z,hC24⟩
  replace hr5:=AE hr5 hc2
  refine AM ?_
  obtain rfl:=Aa hr5
  exact Ay (l':=[(5,v1)]) ⟨z,Ak⟩<|⟨x6.2.2.1,x6.2.2.2,v1,x4,z,z,hC13⟩
 rintro l2 _ w6 hs2 ⟨x7,x8,v3,x9,rfl,rfl,hC14⟩
 try dsimp only at hF
 refine Bm hs2 ?_
 clear hs2
 refine Ad<|Ae z z<|Af z z<|Ab<|AK<|?_
 obtain rfl:=Aa hF
 exact AB z z<|have hC26:=hC14.f1;⟨_,z,_,z,hC26⟩
theorem c_S_l2AnySchema {w0:World} {Fs:List (List Nat)} (pb1:Nat) (a1:((List UInt8) × Int × Int)) (u1:Value) (g1:RO Fs.flatten w0 u1 a1.1) (hH:Hold [Ac pb1 [u1,(I a1.2.1),(I a1.2.2)]] w0 Fs) (hn:Fs.flatten.Nodup) (rr:((List Int) × ((List UInt8) × Int × Int))) (hF:S.l2AnySchema a1=some rr) :
 Calls Tryz.prog 92 [(ptr pb1 0)].toArray w0 fun e w'=>∃v,e=.returned v∧∃q0:Value,v=q0∧Ctx Fs.flatten w0 w' [Ag q0 (rr.1:(List Int)),Ac pb1 [u1,(I rr.2.2.1),(I rr.2.2.2)]]:=by
 refine A3 Tryz.func92 z z ?_
 have hC0:=B6 hH hn
 unfold S.l2AnySchema at hF
 refine Ad<|Af z z<|Ab<|Ad<|Ae z z<|be hF fun x1 hr1 hF=>?_
 obtain ⟨Fs1,hH1,hn1,hF1,hO1,hb1⟩:=AS (As:=[]) [Ac pb1 [u1,(I a1.2.1),(I a1.2.2)]] hC0
 refine AJ Tryz.call87 z z (c_S_l2Schema pb1 (a1.1,a1.2.1,a1.2.2) u1 (AX g1 hC0.keep hF1) hH1 hn1 x1 hr1) ?_
 rintro v1 w1 ⟨_,rfl,hq1⟩
 have hC1:Ctx Fs.flatten w0 w1 [Ag v1 (x1.1:(List Int)),Ac pb1 [u1,(I x1.2.2.1),(I x1.2.2.2)]]:=hb1 _ _ hq1
 refine Af z z<|Ab<|AA<|Ad<|Ae z z<|be hF fun x2 hr2 hF=>have hC2:=hC1.f1;?_
 obtain ⟨Fs2,hH2,hn2,hF2,hO2,hb2⟩:=AS (As:=[Ag v1 (x1.1:(List Int))]) [Ac pb1 [u1,(I x1.2.2.1),(I x1.2.2.2)]] hC2
 refine AJ Ct z z (c_S_l1Once pb1 (a1.1,x1.2.2.1,x1.2.2.2) u1 (AX g1 hC2.keep hF2) 14 hH2 hn2 x2 hr2) ?_
 rintro _ w2 ⟨rfl,hq2⟩
 have hC3:Ctx Fs.flatten w0 w2 [Ac pb1 [u1,(I x2.2.2.1),(I x2.2.2.2)],Ag v1 (x1.1:(List Int))]:=hb2 _ _ hq2
 refine Ab<|be hF fun r1 hr3 hF=>Bx (fun l w=>∃x3:Int,∃x4:Int,∃v2:Value,∃x5:(List Int),(x3,x4,x5)=r1∧l=[(3,v2)]∧Ctx Fs.flatten w0 w [Ac pb1 [u1,(I x3),(I x4)],Ag v2 (x5:(List Int))]) ?_ ?_
 ·refine AL z (fun hc1=>?_) (fun hc1=>?_)
  ·replace hr3:=AD hr3 hc1
   refine Bt<|Ae z z<|Ae z z<|AN (vs:=[(I 0),(I 1),(I 4)]) hC3 Ap ty3 z z z z (fac z<|fac z<|fac z<|fa0) z z fun b1 w4 hC5 hB2=>?_
   have hC6:=hC5.row0 (α:=Int)
   have hC7:=hC6.triv (Bv (4))
   have hC8:=hC7.row1
   have hC9:=hC8.triv (Bv (1))
   have hC10:=hC9.row1
   have hC11:=hC10.triv (Bv (0))
   have hC12:=hC11.row1
   have hC13:=hC12.front 1 z
   dsimp only [List.eraseIdx,List.cons_append,List.nil_append,List.append_nil] at hC13
   have hC14:Ctx Fs.flatten w0 w4 (Ag (.slice (some ⟨b1,0,none⟩) 3 3) ([0,1,4]:List Int)::[Ac pb1 [u1,(I x2.2.2.1),(I x2.2.2.2)],Ag v1 (x1.1:(List Int))]):=hC13.rowOwn (by simp [maxLen])
   refine be hr3 fun x6 hr4 hr3=>have hC15:=hC14.f1;?_
   obtain ⟨Fs3,hH3,hn3,hF3,hO3,hb3⟩:=AS (As:=[Ag (.slice (some ⟨b1,0,none⟩) 3 3) ([0,1,4]:(List Int)),Ag v1 (x1.1:(List Int))]) [Ac pb1 [u1,(I x2.2.2.1),(I x2.2.2.2)]] hC15
   refine AJ BY z z (c_S_l1PickInt pb1 (a1.1,x2.2.2.1,x2.2.2.2) u1 (AX g1 hC15.keep hF3) ([0,1,4]) (.slice (some ⟨b1,0,none⟩) 3 3) (hO3 0 _ _ _ z) hH3 hn3 x6 hr4) ?_
   rintro _ w5 ⟨rfl,hq3⟩
   have hC16:Ctx Fs.flatten w0 w5 [Ac pb1 [u1,(I x6.2.2.1),(I x6.2.2.2)],Ag (.slice (some ⟨b1,0,none⟩) 3 3) ([0,1,4]:(List Int)),Ag v1 (x1.1:(List Int))]:=hb3 _ _ hq3
   refine AN (vs:=[(I x6.1)]) hC16 Ap ty3 z z z z (fac z<|fa0) z z (fun b2 w6 hC17 hB3=>?_)
   have hC18:=hC17.row0 (α:=Int)
   have hC19:=hC18.triv (Bv (x6.1))
   have hC20:=hC19.row1
   have hC21:=hC20.front 1 z
   dsimp only [List.eraseIdx,List.cons_append,List.nil_append,List.append_nil] at hC21
   have hC22:Ctx Fs.flatten w0 w6 (Ag (.slice (some ⟨b2,0,none⟩) 1 1) ([x6.1]:List Int)::[Ac pb1 [u1,(I x6.2.2.1),(I x6.2.2.2)],Ag (.slice (some ⟨b1,0,none⟩) 3 3) ([0,1,4]:(List Int)),Ag v1 (x1.1:(List Int))]):=hC21.rowOwn (by simp [maxLen])
   refine be hr3 fun x7 hx1 hr3=>BN (α:=Int) hC22 3 z (hC22.ro 0 z) (B5 _ _) Ap ty3 z hx1 z z z fun v3 w7 hC23=>?_
   try dsimp only [List.set] at hC23
   refine Af z z<|Ab<|?_
   obtain rfl:=Aa hr3
   have hC24:=hC23.f3
   have hC25:=hC24.f2
   have hC26:=hC25.h2
   exact Ay (l':=[(3,v3)]) ⟨z,Ak⟩<|⟨x6.2.2.1,x6.2.2.2,v3,x7,z,z,hC26⟩
  replace hr3:=AE hr3 hc1
  refine AM ?_
  obtain rfl:=Aa hr3
  exact Ay (l':=[(3,v1)]) ⟨z,Ak⟩<|⟨x2.2.2.1,x2.2.2.2,v1,x1.1,z,z,hC3⟩
 rintro l1 _ w3 hs1 ⟨x3,x4,v2,x5,rfl,rfl,hC4⟩
 try dsimp only at hF
 refine Bm hs1 ?_
 clear hs1
 refine Ad<|Ae z z<|Af z z<|Ab<|AK<|?_
 obtain rfl:=Aa hF
 exact AB z z<|have hC27:=hC4.f1;⟨_,z,_,z,hC27⟩
end Go.Gx.Px
