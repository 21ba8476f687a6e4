/- The contracts of the Go functions against the pure functions, printed by program. Conditions: each says them. -/
import Derived.Test.YtdkfiadoiapnbaaC1
set_option linter.unusedVariables false
set_option linter.unusedSimpArgs false
set_option maxRecDepth 100000
set_option maxHeartbeats 4000000
namespace Go.Gx.Px
open Go.Proofs Go.RowKit

theorem c_Q_heldIntS {w0 : World} (a1 : (List Int)) (u1 : Value) (g1 : RO [] w0 u1 a1) (a2 : Int) (rr : Int) (hF : Q.heldIntS a1 a2 = some rr) :
 Calls Try.prog 20 [u1, (.int .i64 a2)].toArray w0 fun e w' => ∃ v, e = .returned v ∧ Res w0 rr v w' := by
 refine calls_of_W Try.func20 rfl rfl ?_
 have hC0 := Ctx.start w0
 unfold Q.heldIntS at hF
 refine W_seq_reg ?_
 refine WL_assign rfl rfl ?_
 refine WL_nil (W_seq (W_seq_reg ?_))
 refine WL_assign rfl rfl ?_
 refine WL_nil ?_
 obtain ⟨r1, hr1, hF⟩ := bind_some hF
 refine W_norm (fun l w => ∃ x3 : Int, .inl x3 = r1 ∧ l = [(1, (.int .i64 x3))] ∧ Below w0.heap.size w0 w ∧ Ctx [] w0 w []) ?_ ?_
 ·refine W_block ?_
  refine W.sub (l' := [(0, u1), (1, (.int .i64 a2)), (5, (.int .i64 0))]) ?_ ⟨rfl, rfl, rfl, trivial⟩
  refine W_loop (fun k l w => ∃ x1 : Int, ∃ x2 : Int, l = [(0, u1), (1, (.int .i64 x1)), (5, (.int .i64 x2))] ∧ Below w0.heap.size w0 w ∧ Ctx [] w0 w [] ∧ Q.heldIntS_l1 a1 k x1 x2 = some r1) FUEL ⟨a2, 0, rfl, (Below.refl _ _), hC0, hr1⟩ ?_
  clear hr1
  rintro k1 _ w1 ⟨x1, x2, rfl, hB1, hC1, hL1⟩
  cases k1 with
  | zero => rw [Q.heldIntS_l1] at hL1; cases hL1
  | succ k1 =>
   rw [Q.heldIntS_l1] at hL1
   refine W_seq (W_seq_reg ?_)
   refine WL_move rfl rfl ?_
   refine WL_move rfl rfl ?_
   refine WL_len Try.underlying23 g1 rfl rfl ?_
   refine WL_lss rfl rfl rfl ?_
   refine WL_nil ?_
   refine W_cond rfl (fun hc1 => ?_) (fun hc1 => ?_)
   ·replace hL1 := ite_t hL1 hc1
    refine W_skip (nrm_normal (W_seq (W_block (W_seq (W_seq_reg ?_)))))
    refine WL_move rfl rfl ?_
    refine WL_move rfl rfl ?_
    obtain ⟨x4, hx1, hL1⟩ := bind_some hL1
    refine WL_index Try.underlying23 ty3 g1 hx1 rfl rfl rfl (fun b1 o1 h1 => ?_)
    refine WL_load ty3 h1 hC1.keep rfl rfl (fun v1 h2 => ?_)
    obtain rfl := ro_int h2
    refine WL_move rfl rfl ?_
    refine WL_neq rfl rfl rfl ?_
    refine WL_nil ?_
    refine W_cond rfl (fun hc2 => ?_) (fun hc2 => ?_)
    ·replace hL1 := ite_t hL1 hc2
     refine W_seq_reg ?_
     refine WL_assign rfl rfl ?_
     refine WL_nil (W_ret (nrm_ret (blk_ret (nrm_ret (nrm_ret (blk_ret (nrm_ret (nrm_ret ?_))))))))
     have hq1 := Option.some.inj hL1
     subst hq1
     dsimp only at hF
     have hq2 := Option.some.inj hF
     subst hq2
     refine fn_ret1 rfl rfl ?_
     exact ⟨_, rfl, int_res hC1 _⟩
    replace hL1 := ite_f hL1 hc2
    refine W_skip (nrm_normal (W_reg ?_))
    refine WL_move rfl rfl ?_
    refine WL_add rfl rfl rfl ?_
    refine WL_assign rfl rfl ?_
    refine WL_nil (blk_normal (nrm_normal (W_reg ?_)))
    refine WL_move rfl rfl ?_
    refine WL_add rfl rfl rfl ?_
    refine WL_assign rfl rfl ?_
    refine WL_nil ?_
    refine nrm_sub (l' := [(0, u1), (1, (.int .i64 (w64 (x1 + 1)))), (5, (.int .i64 (w64 (x2 + 1))))]) ⟨rfl, rfl, rfl, trivial⟩ ?_
    exact ⟨k1, Nat.lt_succ_self _, w64 (x1 + 1), w64 (x2 + 1), rfl, (Keep.of hB1).below, hC1, hL1⟩
   replace hL1 := ite_f hL1 hc1
   refine W_exit (nrm_exit (nrm_exit (blk_exit ?_)))
   have hq3 := Option.some.inj hL1
   subst hq3
   refine nrm_sub (l' := [(1, (.int .i64 x1))]) ⟨rfl, trivial⟩ ?_
   exact ⟨x1, rfl, rfl, (Keep.of hB1).below, hC1⟩
 rintro l2 _ w2 hs2 ⟨x3, rfl, rfl, hB2, hC2⟩
 try dsimp only at hF
 refine nrm_sub' hs2 ?_
 clear hs2
 refine W_seq_reg ?_
 refine WL_move rfl rfl ?_
 refine WL_assign rfl rfl ?_
 refine WL_nil (W_ret ?_)
 have hq4 := Option.some.inj hF
 subst hq4
 refine fn_ret1 rfl rfl ?_
 exact ⟨_, rfl, int_res hC2 _⟩

theorem c_Q_FnExactDisclosed {w0 : World} (a1 : (List (Int × (List Int) × Int × Int × Int))) (u1 : Value) (g1 : RO [] w0 u1 a1) (a2 : ((List Int) × (List (Int × (List Int))))) (u2 : Value) (g2 : RO [] w0 u2 a2.1) (u3 : Value) (g3 : RO [] w0 u3 a2.2) (a3 : (List (Int × Int))) (u4 : Value) (g4 : RO [] w0 u4 a3) (rr : Bool) (hF : Q.FnExactDisclosed a1 a2 a3 = some rr) :
 Calls Try.prog 3 [u1, (.agg #[u2, u3]), u4].toArray w0 fun e w' => ∃ v, e = .returned v ∧ Res w0 rr v w' := by
 refine calls_of_W Try.func3 rfl rfl ?_
 have hC0 := Ctx.start w0
 unfold Q.FnExactDisclosed at hF
 refine W_seq_reg ?_
 refine WL_boxK (cs := [u2, u3]) hC0 rfl rfl rfl (fun b1 w1 hC1 hB1 hN1 => ?_)
 refine WL_assign rfl rfl ?_
 refine WL_nil (W_seq_reg ?_)
 refine WL_assign rfl rfl ?_
 refine WL_nil (W_seq_reg ?_)
 refine WL_move rfl rfl ?_
 refine WL_move rfl rfl ?_
 obtain ⟨x1, hr1, hF⟩ := bind_some hF
 refine WL_call Try.call4 rfl rfl (c_Q_szMethodS a1 u1 (g1.now hC1.keep) 1048576 x1 hr1) ?_
 intro _ w2 hv1
 obtain ⟨rfl, hB2⟩ := res_int hv1
 have hC2 := hC1.grow hB2
 refine WL_assign rfl rfl ?_
 refine WL_nil (W_seq (W_seq_reg ?_))
 refine WL_move rfl rfl ?_
 refine WL_lss rfl rfl rfl ?_
 refine WL_nil ?_
 refine W_cond rfl (fun hc1 => ?_) (fun hc1 => ?_)
 ·replace hF := ite_t hF hc1
  refine W_seq_reg ?_
  refine WL_assign rfl rfl ?_
  refine WL_nil (W_ret (nrm_ret ?_))
  have hq1 := Option.some.inj hF
  subst hq1
  refine fn_ret1 rfl rfl ?_
  exact ⟨_, rfl, bool_res hC2 _⟩
 replace hF := ite_f hF hc1
 refine W_skip (nrm_normal (W_seq_reg ?_))
 refine WL_load_box_agg [u2, u3] hC2 0 rfl rfl rfl Try.isAgg26 Try.sizeOf26 rfl rfl ?_
 refine WL_move rfl rfl ?_
 obtain ⟨x2, hr2, hF⟩ := bind_some hF
 refine WL_call Try.call5 rfl rfl (c_Q_szQuery (a2.1, a2.2) u2 (g2.now hC2.keep) u3 (g3.now hC2.keep) x1 x2 hr2) ?_
 intro _ w3 hv2
 obtain ⟨rfl, hB3⟩ := res_int hv2
 have hC3 := hC2.grow hB3
 refine WL_assign rfl rfl ?_
 refine WL_nil (W_seq (W_seq_reg ?_))
 refine WL_move rfl rfl ?_
 refine WL_lss rfl rfl rfl ?_
 refine WL_nil ?_
 refine W_cond rfl (fun hc2 => ?_) (fun hc2 => ?_)
 ·replace hF := ite_t hF hc2
  refine W_seq_reg ?_
  refine WL_assign rfl rfl ?_
  refine WL_nil (W_ret (nrm_ret ?_))
  have hq2 := Option.some.inj hF
  subst hq2
  refine fn_ret1 rfl rfl ?_
  exact ⟨_, rfl, bool_res hC3 _⟩
 replace hF := ite_f hF hc2
 refine W_skip (nrm_normal (W_seq_reg ?_))
 refine WL_move rfl rfl ?_
 refine WL_move rfl rfl ?_
 obtain ⟨x3, hr3, hF⟩ := bind_some hF
 refine WL_call Try.call6 rfl rfl (c_Q_szStepS a3 u4 (g4.now hC3.keep) x2 x3 hr3) ?_
 intro _ w4 hv3
 obtain ⟨rfl, hB4⟩ := res_int hv3
 have hC4 := hC3.grow hB4
 refine WL_assign rfl rfl ?_
 refine WL_nil (W_seq (W_seq_reg ?_))
 refine WL_move rfl rfl ?_
 refine WL_lss rfl rfl rfl ?_
 refine WL_nil ?_
 refine W_cond rfl (fun hc3 => ?_) (fun hc3 => ?_)
 ·replace hF := ite_t hF hc3
  refine W_seq_reg ?_
  refine WL_assign rfl rfl ?_
  refine WL_nil (W_ret (nrm_ret ?_))
  have hq3 := Option.some.inj hF
  subst hq3
  refine fn_ret1 rfl rfl ?_
  exact ⟨_, rfl, bool_res hC4 _⟩
 replace hF := ite_f hF hc3
 refine W_skip (nrm_normal (W_seq ?_))
 refine W_drawn 8 rfl hmix (fun w5 hB5 => ?_)
 have hC5 := hC4.grow hB5
 refine WA_tk 0 (by kernel_rfl) rfl rfl (fl_move rfl) ?_
 refine WL_move rfl rfl ?_
 refine WL_nil ?_
 refine WA_tk 4 (by kernel_rfl) rfl rfl (fl_move rfl) ?_
 refine WL_move rfl rfl ?_
 refine WL_nil ?_
 obtain ⟨x4, hr4, hF⟩ := bind_some hF
 refine WA.sub (l' := [(0, u1), (1, (.agg #[u2, u3])), (2, u4), (4, (ptr b1 0)), (6, (.bool false)), (7, (.int .i64 x3)), (17, u1), (18, (.int .i64 1048576)), (19, (.int .i64 x1)), (20, (.int .i64 x1)), (21, (.bool (decide (x1 < 0)))), (22, (.agg #[u2, u3])), (23, (.int .i64 x1)), (24, (.int .i64 x2)), (25, (.int .i64 x2)), (26, (.bool (decide (x2 < 0)))), (27, u4), (28, (.int .i64 x2)), (29, (.int .i64 x3)), (30, (.int .i64 x3)), (31, (.bool (decide (x3 < 0)))), (32, u1), (36, u4)]) ?_ ⟨rfl, rfl, rfl, rfl, rfl, rfl, rfl, rfl, rfl, rfl, rfl, rfl, rfl, rfl, rfl, rfl, rfl, rfl, rfl, rfl, rfl, rfl, rfl, trivial⟩
 refine WA_postsE [⟨1, [], fun vs => PW.own x4, []⟩, ⟨2, [], fun vs => PW.val (.agg #[u2, u3]), []⟩] [[], []] 4 rfl (by kernel_rfl) (by kernel_rfl) rfl ?_ ?_
 ·refine StepsE_cons rfl ?_ ?_
  ·intro w7 hB7
   refine DepsE_nil ?_
   refine ⟨_, rfl, ?_⟩
   refine WL_call Try.call8 rfl rfl (c_Q_toMethodS a1 u1 (g1.now (hC5.keep.then hB7)) x4 hr4) ?_
   rintro v1 w6 ⟨hB6, F1, hv4, hn1, hb1⟩
   refine WL_nil ?_
   exact FinE_own hB6 rfl rfl hv4 hn1 hb1 (Val.inh hv4)
  refine StepsE_cons rfl ?_ ?_
  ·intro w7 hB7
   refine DepsE_nil ?_
   refine ⟨_, rfl, ?_⟩
   refine WL_load_box_agg [u2, u3] (hC5.grow hB7) 0 rfl rfl rfl Try.isAgg26 Try.sizeOf26 rfl rfl ?_
   refine WL_nil ?_
   exact FinE_val (Below.refl _ _) rfl rfl ⟨rfl, rfl⟩
  exact StepsE_nil
 intro w9 hB8
 refine AllE_cons rfl rfl rfl ?_
 intro v1 F1 hv4
 refine AllE_cons rfl rfl rfl ?_
 rintro _ _ ⟨rfl, rfl⟩
 refine AllE_nil ?_
 intro hn2 hb2
 have hC6 := hC5.pushL hB8 (Bs := [Item.own v1 (x4 : (List (Int × (List Int) × Int × Int × Int)))]) (Fs := [F1]) ⟨F1, _, rfl, hv4, rfl⟩ (by simpa using hn2) (fun b h => (hb2 b (by simpa using h)).1)
 obtain ⟨x5, hr5, hF⟩ := bind_some hF
 refine WA_one 3 (by kernel_rfl) rfl ?_
 refine WL_call Try.call9 rfl rfl (c_Q_toQuery (a2.1, a2.2) u2 (g2.now hC6.keep) u3 (g3.now hC6.keep) x5 hr5) ?_
 rintro v2 w10 ⟨hB9, F2, hv5, hn3, hb3⟩
 have hC7 := hC6.push hB9 (A := Item.own v2 x5) hv5 hn3 hb3
 obtain ⟨v3, v4, rfl, hC8⟩ := st36_own hC7
 refine WL_nil ?_
 obtain ⟨x6, hr6, hF⟩ := bind_some hF
 refine WA_one 5 (by kernel_rfl) rfl ?_
 refine WL_call Try.call10 rfl rfl (c_Q_toStepS a3 u4 (g4.now hC8.keep) x6 hr6) ?_
 rintro v5 w11 ⟨hB10, F3, hv6, hn4, hb4⟩
 have hC9 := hC8.push hB10 (A := Item.own v5 x6) hv6 hn4 hb4
 refine WL_nil ?_
 obtain ⟨x7, hr7, hF⟩ := bind_some hF
 refine WA_one 6 (by kernel_rfl) rfl ?_
 refine WL_call Try.call7 rfl rfl (c_S_Disclosed x4 v1 ((hC9.ro 3 rfl).now (Keep.refl _ _)) x5 v3 ((hC9.ro 1 rfl).now (Keep.refl _ _)) v4 ((hC9.ro 2 rfl).now (Keep.refl _ _)) x6 v5 ((hC9.ro 0 rfl).now (Keep.refl _ _)) x7 hr7) ?_
 rintro v6 w12 ⟨hB11, F4, hv7, hn5, hb5⟩
 have hC10 := hC9.push hB11 (A := Item.own v6 x7) hv7 hn5 hb5
 refine WL_nil ?_
 refine WA_tk 7 (by kernel_rfl) rfl rfl (fl_assign rfl) ?_
 refine WL_assign rfl rfl ?_
 refine WL_nil ?_
 refine WA_done (by kernel_rfl) ?_
 refine nrm_normal (W_seq_reg ?_)
 refine WL_move rfl rfl ?_
 obtain ⟨x8, hr8, hF⟩ := bind_some hF
 refine WL_call Try.call8 rfl rfl (c_Q_toMethodS a1 u1 (g1.now hC10.keep) x8 hr8) ?_
 rintro v7 w13 ⟨hB12, F5, hv8, hn6, hb6⟩
 have hC11 := hC10.push hB12 (A := Item.own v7 x8) hv8 hn6 hb6
 refine WL_assign rfl rfl ?_
 refine WL_nil (W_seq_reg ?_)
 refine WL_load_box_agg [u2, u3] hC11 6 rfl rfl rfl Try.isAgg26 Try.sizeOf26 rfl rfl ?_
 obtain ⟨x9, hr9, hF⟩ := bind_some hF
 refine WL_call Try.call9 rfl rfl (c_Q_toQuery (a2.1, a2.2) u2 (g2.now hC11.keep) u3 (g3.now hC11.keep) x9 hr9) ?_
 rintro v8 w14 ⟨hB13, F6, hv9, hn7, hb7⟩
 have hC12 := hC11.push hB13 (A := Item.own v8 x9) hv9 hn7 hb7
 obtain ⟨v9, v10, rfl, hC13⟩ := st36_own hC12
 refine WL_allocK hC13 zero36 rfl rfl (fun b2 w15 hC14 hB14 hN2 => ?_)
 refine WL_store_box_aggK (cs' := [v9, v10]) (new := [v9, v10]) hC14 0 rfl rfl (by intro v hv; simp only [List.mem_cons, List.not_mem_nil, or_false] at hv; rcases hv with rfl | rfl; exact (ro_one (hC14.ro 1 rfl)); exact (ro_one (hC14.ro 2 rfl))) rfl Try.sizeOf36 rfl rfl (fun w16 hC15 hKp1 => ?_)
 try dsimp only [List.set] at hC15
 have hk1 := Keep.over ((((((((((((Keep.of hB1).then hB2).then hB3).then hB4).then hB5).then hB8).then hB9).then hB10).then hB11).then hB12).then hB13).then hB14) (Nat.le_trans (((((((((((Keep.of hB1).then hB2).then hB3).then hB4).then hB5).then hB8).then hB9).then hB10).then hB11).then hB12).then hB13).size hN2) hKp1
 have hk2 := Keep.over (((((((((((Keep.of hB2).then hB3).then hB4).then hB5).then hB8).then hB9).then hB10).then hB11).then hB12).then hB13).then hB14) (Nat.le_trans ((((((((((Keep.of hB2).then hB3).then hB4).then hB5).then hB8).then hB9).then hB10).then hB11).then hB12).then hB13).size hN2) hKp1
 have hk3 := Keep.over ((((((((((Keep.of hB3).then hB4).then hB5).then hB8).then hB9).then hB10).then hB11).then hB12).then hB13).then hB14) (Nat.le_trans (((((((((Keep.of hB3).then hB4).then hB5).then hB8).then hB9).then hB10).then hB11).then hB12).then hB13).size hN2) hKp1
 have hk4 := Keep.over (((((((((Keep.of hB4).then hB5).then hB8).then hB9).then hB10).then hB11).then hB12).then hB13).then hB14) (Nat.le_trans ((((((((Keep.of hB4).then hB5).then hB8).then hB9).then hB10).then hB11).then hB12).then hB13).size hN2) hKp1
 have hk5 := Keep.over ((((((((Keep.of hB5).then hB8).then hB9).then hB10).then hB11).then hB12).then hB13).then hB14) (Nat.le_trans (((((((Keep.of hB5).then hB8).then hB9).then hB10).then hB11).then hB12).then hB13).size hN2) hKp1
 have hk6 := Keep.over (((((((Keep.of hB8).then hB9).then hB10).then hB11).then hB12).then hB13).then hB14) (Nat.le_trans ((((((Keep.of hB8).then hB9).then hB10).then hB11).then hB12).then hB13).size hN2) hKp1
 have hk7 := Keep.over ((((((Keep.of hB9).then hB10).then hB11).then hB12).then hB13).then hB14) (Nat.le_trans (((((Keep.of hB9).then hB10).then hB11).then hB12).then hB13).size hN2) hKp1
 have hk8 := Keep.over (((((Keep.of hB10).then hB11).then hB12).then hB13).then hB14) (Nat.le_trans ((((Keep.of hB10).then hB11).then hB12).then hB13).size hN2) hKp1
 have hk9 := Keep.over ((((Keep.of hB11).then hB12).then hB13).then hB14) (Nat.le_trans (((Keep.of hB11).then hB12).then hB13).size hN2) hKp1
 have hk10 := Keep.over (((Keep.of hB12).then hB13).then hB14) (Nat.le_trans ((Keep.of hB12).then hB13).size hN2) hKp1
 have hk11 := Keep.over ((Keep.of hB13).then hB14) (Nat.le_trans (Keep.of hB13).size hN2) hKp1
 have hk12 := Keep.over (Keep.of hB14) hN2 hKp1
 refine WL_nil (W_seq_reg ?_)
 refine WL_move rfl rfl ?_
 obtain ⟨x10, hr10, hF⟩ := bind_some hF
 refine WL_call Try.call10 rfl rfl (c_Q_toStepS a3 u4 (g4.now hC15.keep) x10 hr10) ?_
 rintro v11 w17 ⟨hB15, F7, hv10, hn8, hb8⟩
 have hC16 := hC15.push hB15 (A := Item.own v11 x10) hv10 hn8 hb8
 refine WL_assign rfl rfl ?_
 refine WL_nil (W_seq_reg ?_)
 refine WL_move rfl rfl ?_
 refine WL_load_box_agg [v9, v10] hC16 1 rfl rfl rfl Try.isAgg36 Try.sizeOf36 rfl rfl ?_
 refine WL_move rfl rfl ?_
 obtain ⟨x11, hr11, hF⟩ := bind_some hF
 refine WL_call Try.call11 rfl rfl (c_M_Disclosed x8 v7 ((hC16.ro 4 rfl).now (Keep.refl _ _)) (x9.1, x9.2) v9 ((hC16.ro 2 rfl).now (Keep.refl _ _)) v10 ((hC16.ro 3 rfl).now (Keep.refl _ _)) x10 v11 ((hC16.ro 0 rfl).now (Keep.refl _ _)) x11 hr11) ?_
 rintro v12 w18 ⟨hB16, F8, hv11, hn9, hb9⟩
 have hC17 := hC16.push hB16 (A := Item.own v12 x11) hv11 hn9 hb9
 refine WL_assign rfl rfl ?_
 refine WL_nil (W_seq (W_seq_reg ?_))
 refine WL_move rfl rfl ?_
 refine WL_move rfl rfl ?_
 obtain ⟨x12, hr12, hF⟩ := bind_some hF
 refine WL_call Try.call12 rfl rfl (c_Q_eqIntS x11 v12 ((hC17.ro 0 rfl).now (Keep.refl _ _)) x7 v6 ((hC17.ro 6 rfl).now (Keep.refl _ _)) x12 hr12) ?_
 intro _ w19 hv12
 obtain ⟨rfl, hB17⟩ := res_bool hv12
 have hC18 := hC17.grow hB17
 refine WL_not rfl rfl ?_
 refine WL_nil ?_
 refine W_cond rfl (fun hc4 => ?_) (fun hc4 => ?_)
 ·replace hF := ite_t hF hc4
  refine W_seq_reg ?_
  refine WL_assign rfl rfl ?_
  refine WL_nil (W_ret (nrm_ret ?_))
  have hq4 := Option.some.inj hF
  subst hq4
  refine fn_ret1 rfl rfl ?_
  exact ⟨_, rfl, bool_res hC18 _⟩
 replace hF := ite_f hF hc4
 refine W_skip (nrm_normal (W_seq (W_seq_reg ?_)))
 refine WL_move rfl rfl ?_
 refine WL_move rfl rfl ?_
 obtain ⟨x13, hr13, hF⟩ := bind_some hF
 refine WL_call Try.call8 rfl rfl (c_Q_toMethodS a1 u1 (g1.now hC18.keep) x13 hr13) ?_
 rintro v13 w20 ⟨hB18, F9, hv13, hn10, hb10⟩
 have hC19 := hC18.push hB18 (A := Item.own v13 x13) hv13 hn10 hb10
 obtain ⟨x14, hr14, hF⟩ := bind_some hF
 refine WL_call Try.call13 rfl rfl (c_Q_eqMethodS x8 v7 ((hC19.ro 6 rfl).now (Keep.refl _ _)) x13 v13 ((hC19.ro 0 rfl).now (Keep.refl _ _)) x14 hr14) ?_
 intro _ w21 hv14
 obtain ⟨rfl, hB19⟩ := res_bool hv14
 have hC20 := hC19.grow hB19
 refine WL_not rfl rfl ?_
 refine WL_nil ?_
 refine W_cond rfl (fun hc5 => ?_) (fun hc5 => ?_)
 ·replace hF := ite_t hF hc5
  refine W_seq_reg ?_
  refine WL_assign rfl rfl ?_
  refine WL_nil (W_ret (nrm_ret ?_))
  have hq5 := Option.some.inj hF
  subst hq5
  refine fn_ret1 rfl rfl ?_
  exact ⟨_, rfl, bool_res hC20 _⟩
 replace hF := ite_f hF hc5
 refine W_skip (nrm_normal (W_seq (W_seq ?_)))
 refine W_drawn 5 rfl hmix (fun w22 hB20 => ?_)
 have hC21 := hC20.grow hB20
 obtain ⟨x15, hr15, hF⟩ := bind_some hF
 refine WA.sub (l' := [(0, u1), (1, (.agg #[u2, u3])), (2, u4), (4, (ptr b1 0)), (6, (.bool false)), (7, (.int .i64 x3)), (8, v6), (9, v7), (10, (ptr b2 0)), (11, v11), (12, v12), (17, u1), (18, (.int .i64 1048576)), (19, (.int .i64 x1)), (20, (.int .i64 x1)), (21, (.bool (decide (x1 < 0)))), (22, (.agg #[u2, u3])), (23, (.int .i64 x1)), (24, (.int .i64 x2)), (25, (.int .i64 x2)), (26, (.bool (decide (x2 < 0)))), (27, u4), (28, (.int .i64 x2)), (29, (.int .i64 x3)), (30, (.int .i64 x3)), (31, (.bool (decide (x3 < 0)))), (32, u1), (33, v1), (34, (.agg #[u2, u3])), (35, (.agg #[v3, v4])), (36, u4), (37, v5), (38, v6), (39, u1), (40, v7), (41, (.agg #[u2, u3])), (42, (.agg #[v9, v10])), (43, u4), (44, v11), (45, v7), (46, (.agg #[v9, v10])), (47, v11), (48, v12), (49, v12), (50, v6), (51, (.bool x12)), (52, (.bool (!x12))), (53, v7), (54, u1), (55, v13), (56, (.bool x14)), (57, (.bool (!x14)))]) ?_ ⟨rfl, rfl, rfl, rfl, rfl, rfl, rfl, rfl, rfl, rfl, rfl, rfl, rfl, rfl, rfl, rfl, rfl, rfl, rfl, rfl, rfl, rfl, rfl, rfl, rfl, rfl, rfl, rfl, rfl, rfl, rfl, rfl, rfl, rfl, rfl, rfl, rfl, rfl, rfl, rfl, rfl, rfl, rfl, rfl, rfl, rfl, rfl, rfl, rfl, rfl, rfl, rfl, trivial⟩
 refine WA_postsE [⟨0, [], fun vs => PW.val (.agg #[v9, v10]), []⟩, ⟨1, [], fun vs => PW.val (.agg #[u2, u3]), []⟩, ⟨2, [], fun vs => PW.own x15, []⟩] [[], [], [1]] 2 rfl (by kernel_rfl) (by kernel_rfl) rfl ?_ ?_
 ·refine StepsE_cons rfl ?_ ?_
  ·intro w24 hB22
   refine DepsE_nil ?_
   refine ⟨_, rfl, ?_⟩
   refine WL_load_box_agg [v9, v10] (hC21.grow hB22) 3 rfl rfl rfl Try.isAgg36 Try.sizeOf36 rfl rfl ?_
   refine WL_nil ?_
   exact FinE_val (Below.refl _ _) rfl rfl ⟨rfl, rfl⟩
  refine StepsE_cons rfl ?_ ?_
  ·intro w24 hB22
   refine DepsE_nil ?_
   refine ⟨_, rfl, ?_⟩
   refine WL_load_box_agg [u2, u3] (hC21.grow hB22) 12 rfl rfl rfl Try.isAgg26 Try.sizeOf26 rfl rfl ?_
   refine WL_nil ?_
   exact FinE_val (Below.refl _ _) rfl rfl ⟨rfl, rfl⟩
  refine StepsE_cons rfl ?_ ?_
  ·intro w24 hB22
   refine DepsE_cons rfl rfl rfl ?_
   rintro _ _ ⟨rfl, rfl⟩ _
   refine DepsE_nil ?_
   refine ⟨_, rfl, ?_⟩
   refine WL_call Try.call9 rfl rfl (c_Q_toQuery (a2.1, a2.2) u2 (g2.now (hC21.keep.then hB22)) u3 (g3.now (hC21.keep.then hB22)) x15 hr15) ?_
   rintro v14 w23 ⟨hB21, F10, hv15, hn11, hb11⟩
   refine WL_nil ?_
   exact FinE_own hB21 rfl rfl hv15 hn11 hb11 (Val.inh hv15)
  exact StepsE_nil
 intro w25 hB23
 refine AllE_cons rfl rfl rfl ?_
 rintro _ _ ⟨rfl, rfl⟩
 refine AllE_cons rfl rfl rfl ?_
 rintro _ _ ⟨rfl, rfl⟩
 refine AllE_cons rfl rfl rfl ?_
 intro v14 F10 hv15
 refine AllE_nil ?_
 intro hn12 hb12
 have hC22 := hC21.pushL hB23 (Bs := [Item.own v14 (x15 : ((List Int) × (List (Int × (List Int)))))]) (Fs := [F10]) ⟨F10, _, rfl, hv15, rfl⟩ (by simpa using hn12) (fun b h => (hb12 b (by simpa using h)).1)
 obtain ⟨v17, v18, rfl, hC23⟩ := st36_own hC22
 obtain ⟨x16, hr16, hF⟩ := bind_some hF
 refine WA_one 3 (by kernel_rfl) rfl ?_
 refine WL_call Try.call14 rfl rfl (c_Q_eqQuery (x9.1, x9.2) v9 ((hC23.ro 6 rfl).now (Keep.refl _ _)) v10 ((hC23.ro 7 rfl).now (Keep.refl _ _)) x15 v17 ((hC23.ro 0 rfl).now (Keep.refl _ _)) v18 ((hC23.ro 1 rfl).now (Keep.refl _ _)) x16 hr16) ?_
 intro _ w26 hv16
 obtain ⟨rfl, hB24⟩ := res_bool hv16
 have hC24 := hC23.grow hB24
 refine WL_nil ?_
 refine WA_tk 4 (by kernel_rfl) rfl rfl (fl_not rfl) ?_
 refine WL_not rfl rfl ?_
 refine WL_nil ?_
 refine WA_done (by kernel_rfl) ?_
 refine nrm_normal ?_
 refine W_cond rfl (fun hc6 => ?_) (fun hc6 => ?_)
 ·replace hF := ite_t hF hc6
  refine W_seq_reg ?_
  refine WL_assign rfl rfl ?_
  refine WL_nil (W_ret (nrm_ret ?_))
  have hq6 := Option.some.inj hF
  subst hq6
  refine fn_ret1 rfl rfl ?_
  exact ⟨_, rfl, bool_res hC24 _⟩
 replace hF := ite_f hF hc6
 refine W_skip (nrm_normal (W_seq (W_seq_reg ?_)))
 refine WL_move rfl rfl ?_
 refine WL_move rfl rfl ?_
 obtain ⟨x17, hr17, hF⟩ := bind_some hF
 refine WL_call Try.call10 rfl rfl (c_Q_toStepS a3 u4 (g4.now hC24.keep) x17 hr17) ?_
 rintro v19 w27 ⟨hB25, F11, hv17, hn13, hb13⟩
 have hC25 := hC24.push hB25 (A := Item.own v19 x17) hv17 hn13 hb13
 obtain ⟨x18, hr18, hF⟩ := bind_some hF
 refine WL_call Try.call15 rfl rfl (c_Q_eqStepS x10 v11 ((hC25.ro 5 rfl).now (Keep.refl _ _)) x17 v19 ((hC25.ro 0 rfl).now (Keep.refl _ _)) x18 hr18) ?_
 intro _ w28 hv18
 obtain ⟨rfl, hB26⟩ := res_bool hv18
 have hC26 := hC25.grow hB26
 refine WL_not rfl rfl ?_
 refine WL_nil ?_
 refine W_cond rfl (fun hc7 => ?_) (fun hc7 => ?_)
 ·replace hF := ite_t hF hc7
  refine W_seq_reg ?_
  refine WL_assign rfl rfl ?_
  refine WL_nil (W_ret (nrm_ret ?_))
  have hq7 := Option.some.inj hF
  subst hq7
  refine fn_ret1 rfl rfl ?_
  exact ⟨_, rfl, bool_res hC26 _⟩
 replace hF := ite_f hF hc7
 refine W_skip (nrm_normal (W_seq_reg ?_))
 refine WL_assign rfl rfl ?_
 refine WL_nil (W_seq_reg ?_)
 refine WL_move rfl rfl ?_
 refine WL_move rfl rfl ?_
 obtain ⟨x19, hr19, hF⟩ := bind_some hF
 have hC27 := hC26.f9
 obtain ⟨Fs1, hH1, hn14, hF1, hO1, hb14⟩ := Ctx.lend2 (As := [Item.own v19 (x17 : (List (Int × Int))), Item.own v17 (x15.1 : (List Int)), Item.own v18 (x15.2 : (List (Int × (List Int)))), Item.own v13 (x13 : (List (Int × (List Int) × Int × Int × Int))), Item.own v12 (x11 : (List Int)), Item.own v11 (x10 : (List (Int × Int))), Item.box b2 [v9, v10], Item.own v9 (x9.1 : (List Int)), Item.own v10 (x9.2 : (List (Int × (List Int)))), Item.own v6 (x7 : (List Int)), Item.own v5 (x6 : (List (Int × Int))), Item.own v3 (x5.1 : (List Int)), Item.own v4 (x5.2 : (List (Int × (List Int)))), Item.own v1 (x4 : (List (Int × (List Int) × Int × Int × Int))), Item.box b1 [u2, u3]]) [Item.own v7 (x8 : (List (Int × (List Int) × Int × Int × Int)))] hC27
 refine WL_call Try.call16 rfl rfl (c_Q_markMethodS x8 v7 1 hH1 hn14 x19 hr19) ?_
 rintro _ w29 ⟨rfl, hq8⟩
 have hC28 : Ctx [] w0 w29 [Item.own v7 (x19.2 : (List (Int × (List Int) × Int × Int × Int))), Item.own v19 (x17 : (List (Int × Int))), Item.own v17 (x15.1 : (List Int)), Item.own v18 (x15.2 : (List (Int × (List Int)))), Item.own v13 (x13 : (List (Int × (List Int) × Int × Int × Int))), Item.own v12 (x11 : (List Int)), Item.own v11 (x10 : (List (Int × Int))), Item.box b2 [v9, v10], Item.own v9 (x9.1 : (List Int)), Item.own v10 (x9.2 : (List (Int × (List Int)))), Item.own v6 (x7 : (List Int)), Item.own v5 (x6 : (List (Int × Int))), Item.own v3 (x5.1 : (List Int)), Item.own v4 (x5.2 : (List (Int × (List Int)))), Item.own v1 (x4 : (List (Int × (List Int) × Int × Int × Int))), Item.box b1 [u2, u3]] := hb14 _ _ hq8
 refine WL_assign rfl rfl ?_
 refine WL_nil (W_seq_reg ?_)
 refine WL_load_box_agg [v9, v10] hC28 7 rfl rfl rfl Try.isAgg36 Try.sizeOf36 rfl rfl ?_
 refine WL_move rfl rfl ?_
 obtain ⟨x20, hr20, hF⟩ := bind_some hF
 have hC29 := hC28.f9
 have hC30 := hC29.f9
 obtain ⟨Fs2, hH2, hn15, hF2, hO2, hb15⟩ := Ctx.lend2 (As := [Item.own v7 (x19.2 : (List (Int × (List Int) × Int × Int × Int))), Item.own v19 (x17 : (List (Int × Int))), Item.own v17 (x15.1 : (List Int)), Item.own v18 (x15.2 : (List (Int × (List Int)))), Item.own v13 (x13 : (List (Int × (List Int) × Int × Int × Int))), Item.own v12 (x11 : (List Int)), Item.own v11 (x10 : (List (Int × Int))), Item.box b2 [v9, v10], Item.own v6 (x7 : (List Int)), Item.own v5 (x6 : (List (Int × Int))), Item.own v3 (x5.1 : (List Int)), Item.own v4 (x5.2 : (List (Int × (List Int)))), Item.own v1 (x4 : (List (Int × (List Int) × Int × Int × Int))), Item.box b1 [u2, u3]]) [Item.own v9 (x9.1 : (List Int)), Item.own v10 (x9.2 : (List (Int × (List Int))))] hC30
 refine WL_call Try.call17 rfl rfl (c_Q_markQuery (x9.1, x9.2) v9 v10 x19.1 hH2 hn15 x20 hr20) ?_
 rintro _ w30 ⟨rfl, hq9⟩
 have hC31 : Ctx [] w0 w30 [Item.own v9 (x20.2.1 : (List Int)), Item.own v10 (x20.2.2 : (List (Int × (List Int)))), Item.own v7 (x19.2 : (List (Int × (List Int) × Int × Int × Int))), Item.own v19 (x17 : (List (Int × Int))), Item.own v17 (x15.1 : (List Int)), Item.own v18 (x15.2 : (List (Int × (List Int)))), Item.own v13 (x13 : (List (Int × (List Int) × Int × Int × Int))), Item.own v12 (x11 : (List Int)), Item.own v11 (x10 : (List (Int × Int))), Item.box b2 [v9, v10], Item.own v6 (x7 : (List Int)), Item.own v5 (x6 : (List (Int × Int))), Item.own v3 (x5.1 : (List Int)), Item.own v4 (x5.2 : (List (Int × (List Int)))), Item.own v1 (x4 : (List (Int × (List Int) × Int × Int × Int))), Item.box b1 [u2, u3]] := hb15 _ _ hq9
 refine WL_assign rfl rfl ?_
 refine WL_nil (W_seq_reg ?_)
 refine WL_move rfl rfl ?_
 refine WL_move rfl rfl ?_
 obtain ⟨x21, hr21, hF⟩ := bind_some hF
 have hC32 := hC31.f8
 obtain ⟨Fs3, hH3, hn16, hF3, hO3, hb16⟩ := Ctx.lend2 (As := [Item.own v9 (x20.2.1 : (List Int)), Item.own v10 (x20.2.2 : (List (Int × (List Int)))), Item.own v7 (x19.2 : (List (Int × (List Int) × Int × Int × Int))), Item.own v19 (x17 : (List (Int × Int))), Item.own v17 (x15.1 : (List Int)), Item.own v18 (x15.2 : (List (Int × (List Int)))), Item.own v13 (x13 : (List (Int × (List Int) × Int × Int × Int))), Item.own v12 (x11 : (List Int)), Item.box b2 [v9, v10], Item.own v6 (x7 : (List Int)), Item.own v5 (x6 : (List (Int × Int))), Item.own v3 (x5.1 : (List Int)), Item.own v4 (x5.2 : (List (Int × (List Int)))), Item.own v1 (x4 : (List (Int × (List Int) × Int × Int × Int))), Item.box b1 [u2, u3]]) [Item.own v11 (x10 : (List (Int × Int)))] hC32
 refine WL_call Try.call18 rfl rfl (c_Q_markStepS x10 v11 x20.1 hH3 hn16 x21 hr21) ?_
 rintro _ w31 ⟨rfl, hq10⟩
 have hC33 : Ctx [] w0 w31 [Item.own v11 (x21.2 : (List (Int × Int))), Item.own v9 (x20.2.1 : (List Int)), Item.own v10 (x20.2.2 : (List (Int × (List Int)))), Item.own v7 (x19.2 : (List (Int × (List Int) × Int × Int × Int))), Item.own v19 (x17 : (List (Int × Int))), Item.own v17 (x15.1 : (List Int)), Item.own v18 (x15.2 : (List (Int × (List Int)))), Item.own v13 (x13 : (List (Int × (List Int) × Int × Int × Int))), Item.own v12 (x11 : (List Int)), Item.box b2 [v9, v10], Item.own v6 (x7 : (List Int)), Item.own v5 (x6 : (List (Int × Int))), Item.own v3 (x5.1 : (List Int)), Item.own v4 (x5.2 : (List (Int × (List Int)))), Item.own v1 (x4 : (List (Int × (List Int) × Int × Int × Int))), Item.box b1 [u2, u3]] := hb16 _ _ hq10
 refine WL_assign rfl rfl ?_
 refine WL_nil (W_seq ?_)
 obtain ⟨r1, hr22, hF⟩ := bind_some hF
 refine W_cut (fun l w => ∃ x22 : Bool, x22 = r1 ∧ l = [(0, u1), (2, u4), (4, (ptr b1 0)), (8, v6), (12, v12), (84, (.bool x22))] ∧ Below w31.heap.size w31 w ∧ Ctx [] w0 w [Item.own v12 (x11 : (List Int)), Item.own v6 (x7 : (List Int)), Item.box b1 [u2, u3]]) ?_ ?_
 ·refine W_reg ?_
  refine WL_move rfl rfl ?_
  refine WL_lss rfl rfl rfl ?_
  refine WL_move rfl rfl ?_
  refine WL_fork (fun hc8 => ?_) (fun hc8 => ?_)
  ·replace hr22 := ite_t hr22 hc8
   refine WL_guard_skip rfl rfl (by simp) rfl ?_
   refine WL_guard_skip rfl rfl (by simp) rfl ?_
   refine WL_guard_skip rfl rfl (by simp) rfl ?_
   refine WL_guard_skip rfl rfl (by simp) rfl ?_
   refine WL_pick_t rfl rfl rfl ?_
   refine WL_nil ?_
   have hq11 := Option.some.inj hr22
   subst hq11
   have hC35 := hC33.f15
   have hC36 := hC35.f11
   have hC37 := hC36.f10
   have hC38 := hC37.h3
   refine nrm_sub (l' := [(0, u1), (2, u4), (4, (ptr b1 0)), (8, v6), (12, v12), (84, (.bool true))]) ⟨rfl, rfl, rfl, rfl, rfl, rfl, trivial⟩ ?_
   exact ⟨true, rfl, rfl, (Below.refl _ _), hC38⟩
  replace hr22 := ite_f hr22 hc8
  refine WL_guard rfl rfl ?_
  refine WL_move rfl rfl ?_
  refine WL_guard rfl rfl ?_
  refine WL_move rfl rfl ?_
  obtain ⟨x23, hr23, hr22⟩ := bind_some hr22
  refine WL_guard rfl rfl ?_
  refine WL_call Try.call12 rfl rfl (c_Q_eqIntS x11 v12 ((hC33.ro 8 rfl).now (Keep.refl _ _)) x7 v6 ((hC33.ro 10 rfl).now (Keep.refl _ _)) x23 hr23) ?_
  intro _ w33 hv19
  obtain ⟨rfl, hB28⟩ := res_bool hv19
  have hC39 := hC33.grow hB28
  refine WL_guard rfl rfl ?_
  refine WL_not rfl rfl ?_
  refine WL_pick_f rfl rfl rfl ?_
  refine WL_nil ?_
  have hq12 := Option.some.inj hr22
  subst hq12
  have hC40 := hC39.f15
  have hC41 := hC40.f11
  have hC42 := hC41.f10
  have hC43 := hC42.h3
  refine nrm_sub (l' := [(0, u1), (2, u4), (4, (ptr b1 0)), (8, v6), (12, v12), (84, (.bool (!x23)))]) ⟨rfl, rfl, rfl, rfl, rfl, rfl, trivial⟩ ?_
  exact ⟨(!x23), rfl, rfl, (Keep.of hB28).below, hC43⟩
 rintro _ w32 ⟨x22, rfl, rfl, hB27, hC34⟩
 try dsimp only at hF
 refine W_cond rfl (fun hc9 => ?_) (fun hc9 => ?_)
 ·replace hF := ite_t hF hc9
  refine W_seq_reg ?_
  refine WL_assign rfl rfl ?_
  refine WL_nil (W_ret (nrm_ret ?_))
  have hq13 := Option.some.inj hF
  subst hq13
  refine fn_ret1 rfl rfl ?_
  exact ⟨_, rfl, bool_res hC34 _⟩
 replace hF := ite_f hF hc9
 refine W_skip (nrm_normal (W_seq_reg ?_))
 refine WL_assign rfl rfl ?_
 refine WL_nil (W_seq_reg ?_)
 refine WL_move rfl rfl ?_
 refine WL_move rfl rfl ?_
 obtain ⟨x24, hr24, hF⟩ := bind_some hF
 obtain ⟨Fs4, hH4, hn17, hF4, hO4, hb17⟩ := Ctx.lend2 (As := [Item.own v6 (x7 : (List Int)), Item.box b1 [u2, u3]]) [Item.own v12 (x11 : (List Int))] hC34
 refine WL_call Try.call19 rfl rfl (c_Q_markIntS x11 v12 1 hH4 hn17 x24 hr24) ?_
 rintro _ w34 ⟨rfl, hq14⟩
 have hC45 : Ctx [] w0 w34 [Item.own v12 (x24.2 : (List Int)), Item.own v6 (x7 : (List Int)), Item.box b1 [u2, u3]] := hb17 _ _ hq14
 refine WL_assign rfl rfl ?_
 refine WL_nil (W_seq_reg ?_)
 refine WL_assign rfl rfl ?_
 refine WL_nil (W_seq_reg ?_)
 refine WL_move rfl rfl ?_
 refine WL_move rfl rfl ?_
 obtain ⟨x25, hr25, hF⟩ := bind_some hF
 refine WL_call Try.call20 rfl rfl (c_Q_heldIntS x24.2 v12 ((hC45.ro 0 rfl).now (Keep.refl _ _)) 1 x25 hr25) ?_
 intro _ w35 hv20
 obtain ⟨rfl, hB29⟩ := res_int hv20
 have hC46 := hC45.grow hB29
 refine WL_assign rfl rfl ?_
 refine WL_nil (W_seq (W_seq_reg ?_))
 refine WL_move rfl rfl ?_
 refine WL_lss rfl rfl rfl ?_
 refine WL_nil ?_
 refine W_cond rfl (fun hc10 => ?_) (fun hc10 => ?_)
 ·replace hF := ite_t hF hc10
  refine W_seq_reg ?_
  refine WL_assign rfl rfl ?_
  refine WL_nil (W_ret (nrm_ret ?_))
  have hq15 := Option.some.inj hF
  subst hq15
  refine fn_ret1 rfl rfl ?_
  exact ⟨_, rfl, bool_res hC46 _⟩
 replace hF := ite_f hF hc10
 refine W_skip (nrm_normal (W_seq (W_seq_reg ?_)))
 refine WL_move rfl rfl ?_
 refine WL_move rfl rfl ?_
 refine WL_neq rfl rfl rfl ?_
 refine WL_nil ?_
 refine W_cond rfl (fun hc11 => ?_) (fun hc11 => ?_)
 ·replace hF := ite_t hF hc11
  refine W_seq_reg ?_
  refine WL_assign rfl rfl ?_
  refine WL_nil (W_ret (nrm_ret ?_))
  have hq16 := Option.some.inj hF
  subst hq16
  refine fn_ret1 rfl rfl ?_
  exact ⟨_, rfl, bool_res hC46 _⟩
 replace hF := ite_f hF hc11
 refine W_skip (nrm_normal (W_seq ?_))
 refine W_drawn 8 rfl hmix (fun w36 hB30 => ?_)
 have hC47 := hC46.grow hB30
 refine WA_tk 0 (by kernel_rfl) rfl rfl (fl_move rfl) ?_
 refine WL_move rfl rfl ?_
 refine WL_nil ?_
 refine WA_tk 4 (by kernel_rfl) rfl rfl (fl_move rfl) ?_
 refine WL_move rfl rfl ?_
 refine WL_nil ?_
 obtain ⟨x26, hr26, hF⟩ := bind_some hF
 refine WA.sub (l' := [(0, u1), (2, u4), (4, (ptr b1 0)), (8, v6), (12, v12), (14, (.int .i64 x24.1)), (15, (.int .i64 x25)), (84, (.bool x22)), (85, v12), (86, (.int .i64 1)), (87, (.int .i64 x24.1)), (88, v12), (89, (.int .i64 1)), (90, (.int .i64 x25)), (91, (.int .i64 x25)), (92, (.bool (decide (x25 < 0)))), (93, (.int .i64 x25)), (94, (.int .i64 x24.1)), (95, (.bool (!decide (x25 = x24.1)))), (96, u1), (100, u4)]) ?_ ⟨rfl, rfl, rfl, rfl, rfl, rfl, rfl, rfl, rfl, rfl, rfl, rfl, rfl, rfl, rfl, rfl, rfl, rfl, rfl, rfl, rfl, trivial⟩
 refine WA_postsE [⟨1, [], fun vs => PW.own x26, []⟩, ⟨2, [], fun vs => PW.val (.agg #[u2, u3]), []⟩] [[], []] 4 rfl (by kernel_rfl) (by kernel_rfl) rfl ?_ ?_
 ·refine StepsE_cons rfl ?_ ?_
  ·intro w38 hB32
   refine DepsE_nil ?_
   refine ⟨_, rfl, ?_⟩
   refine WL_call Try.call8 rfl rfl (c_Q_toMethodS a1 u1 (g1.now (hC47.keep.then hB32)) x26 hr26) ?_
   rintro v20 w37 ⟨hB31, F12, hv21, hn18, hb18⟩
   refine WL_nil ?_
   exact FinE_own hB31 rfl rfl hv21 hn18 hb18 (Val.inh hv21)
  refine StepsE_cons rfl ?_ ?_
  ·intro w38 hB32
   refine DepsE_nil ?_
   refine ⟨_, rfl, ?_⟩
   refine WL_load_box_agg [u2, u3] (hC47.grow hB32) 2 rfl rfl rfl Try.isAgg26 Try.sizeOf26 rfl rfl ?_
   refine WL_nil ?_
   exact FinE_val (Below.refl _ _) rfl rfl ⟨rfl, rfl⟩
  exact StepsE_nil
 intro w39 hB33
 refine AllE_cons rfl rfl rfl ?_
 intro v20 F12 hv21
 refine AllE_cons rfl rfl rfl ?_
 rintro _ _ ⟨rfl, rfl⟩
 refine AllE_nil ?_
 intro hn19 hb19
 have hC48 := hC47.pushL hB33 (Bs := [Item.own v20 (x26 : (List (Int × (List Int) × Int × Int × Int)))]) (Fs := [F12]) ⟨F12, _, rfl, hv21, rfl⟩ (by simpa using hn19) (fun b h => (hb19 b (by simpa using h)).1)
 obtain ⟨x27, hr27, hF⟩ := bind_some hF
 refine WA_one 3 (by kernel_rfl) rfl ?_
 refine WL_call Try.call9 rfl rfl (c_Q_toQuery (a2.1, a2.2) u2 (g2.now hC48.keep) u3 (g3.now hC48.keep) x27 hr27) ?_
 rintro v21 w40 ⟨hB34, F13, hv22, hn20, hb20⟩
 have hC49 := hC48.push hB34 (A := Item.own v21 x27) hv22 hn20 hb20
 obtain ⟨v22, v23, rfl, hC50⟩ := st36_own hC49
 refine WL_nil ?_
 obtain ⟨x28, hr28, hF⟩ := bind_some hF
 refine WA_one 5 (by kernel_rfl) rfl ?_
 refine WL_call Try.call10 rfl rfl (c_Q_toStepS a3 u4 (g4.now hC50.keep) x28 hr28) ?_
 rintro v24 w41 ⟨hB35, F14, hv23, hn21, hb21⟩
 have hC51 := hC50.push hB35 (A := Item.own v24 x28) hv23 hn21 hb21
 refine WL_nil ?_
 obtain ⟨x29, hr29, hF⟩ := bind_some hF
 refine WA_one 6 (by kernel_rfl) rfl ?_
 refine WL_call Try.call11 rfl rfl (c_M_Disclosed x26 v20 ((hC51.ro 3 rfl).now (Keep.refl _ _)) x27 v22 ((hC51.ro 1 rfl).now (Keep.refl _ _)) v23 ((hC51.ro 2 rfl).now (Keep.refl _ _)) x28 v24 ((hC51.ro 0 rfl).now (Keep.refl _ _)) x29 hr29) ?_
 rintro v25 w42 ⟨hB36, F15, hv24, hn22, hb22⟩
 have hC52 := hC51.push hB36 (A := Item.own v25 x29) hv24 hn22 hb22
 refine WL_nil ?_
 refine WA_tk 7 (by kernel_rfl) rfl rfl (fl_assign rfl) ?_
 refine WL_assign rfl rfl ?_
 refine WL_nil ?_
 refine WA_done (by kernel_rfl) ?_
 refine nrm_normal (W_seq (W_seq_reg ?_))
 refine WL_move rfl rfl ?_
 refine WL_move rfl rfl ?_
 obtain ⟨x30, hr30, hF⟩ := bind_some hF
 refine WL_call Try.call12 rfl rfl (c_Q_eqIntS x29 v25 ((hC52.ro 0 rfl).now (Keep.refl _ _)) x7 v6 ((hC52.ro 6 rfl).now (Keep.refl _ _)) x30 hr30) ?_
 intro _ w43 hv25
 obtain ⟨rfl, hB37⟩ := res_bool hv25
 have hC53 := hC52.grow hB37
 refine WL_not rfl rfl ?_
 refine WL_nil ?_
 refine W_cond rfl (fun hc12 => ?_) (fun hc12 => ?_)
 ·replace hF := ite_t hF hc12
  refine W_seq_reg ?_
  refine WL_assign rfl rfl ?_
  refine WL_nil (W_ret (nrm_ret ?_))
  have hq17 := Option.some.inj hF
  subst hq17
  refine fn_ret1 rfl rfl ?_
  exact ⟨_, rfl, bool_res hC53 _⟩
 replace hF := ite_f hF hc12
 refine W_skip (nrm_normal (W_seq_reg ?_))
 refine WL_assign rfl rfl ?_
 refine WL_nil (W_seq_reg ?_)
 refine WL_move rfl rfl ?_
 refine WL_move rfl rfl ?_
 obtain ⟨x31, hr31, hF⟩ := bind_some hF
 refine WL_call Try.call20 rfl rfl (c_Q_heldIntS x24.2 v12 ((hC53.ro 5 rfl).now (Keep.refl _ _)) 1 x31 hr31) ?_
 intro _ w44 hv26
 obtain ⟨rfl, hB38⟩ := res_int hv26
 have hC54 := hC53.grow hB38
 refine WL_assign rfl rfl ?_
 refine WL_nil (W_seq (W_seq_reg ?_))
 refine WL_move rfl rfl ?_
 refine WL_lss rfl rfl rfl ?_
 refine WL_nil ?_
 refine W_cond rfl (fun hc13 => ?_) (fun hc13 => ?_)
 ·replace hF := ite_t hF hc13
  refine W_seq_reg ?_
  refine WL_assign rfl rfl ?_
  refine WL_nil (W_ret (nrm_ret ?_))
  have hq18 := Option.some.inj hF
  subst hq18
  refine fn_ret1 rfl rfl ?_
  exact ⟨_, rfl, bool_res hC54 _⟩
 replace hF := ite_f hF hc13
 refine W_skip (nrm_normal (W_seq (W_seq_reg ?_)))
 refine WL_move rfl rfl ?_
 refine WL_move rfl rfl ?_
 refine WL_neq rfl rfl rfl ?_
 refine WL_nil ?_
 refine W_cond rfl (fun hc14 => ?_) (fun hc14 => ?_)
 ·replace hF := ite_t hF hc14
  refine W_seq_reg ?_
  refine WL_assign rfl rfl ?_
  refine WL_nil (W_ret (nrm_ret ?_))
  have hq19 := Option.some.inj hF
  subst hq19
  refine fn_ret1 rfl rfl ?_
  exact ⟨_, rfl, bool_res hC54 _⟩
 replace hF := ite_f hF hc14
 refine W_skip (nrm_normal (W_seq_reg ?_))
 refine WL_assign rfl rfl ?_
 refine WL_nil (W_ret ?_)
 have hq20 := Option.some.inj hF
 subst hq20
 refine fn_ret1 rfl rfl ?_
 exact ⟨_, rfl, bool_res hC54 _⟩

end Go.Gx.Px
