/- The contracts of the Go functions against the pure functions, printed by program. Conditions: each says them. -/
import Derived.Test.YtkcdlbgpodogcaaC3
set_option linter.unusedVariables false
set_option linter.unusedSimpArgs false
set_option maxRecDepth 100000
set_option maxHeartbeats 4000000
namespace Go.Gx.Px
open Go.Proofs Go.RowKit

theorem c_Q_FnExactApplyChanges {w0 : World} (a1 : (List Int)) (u1 : Value) (g1 : RO [] w0 u1 a1) (a2 : ((List (Int × (List Int))) × Int)) (u2 : Value) (g2 : RO [] w0 u2 a2.1) (a3 : (List (Bool × (Int × (List Int))))) (u3 : Value) (g3 : RO [] w0 u3 a3) (rr : Bool) (hF : Q.FnExactApplyChanges a1 a2 a3 = some rr) :
    Calls Try.prog 10 [u1, (.agg #[u2, (.int .i64 a2.2)]), u3].toArray w0 fun e w' => ∃ v, e = .returned v ∧ Res w0 rr v w' := by
  refine calls_of_W Try.func10 rfl rfl ?_
  have hC0 := Ctx.start w0
  unfold Q.FnExactApplyChanges at hF
  refine W_seq_reg ?_
  refine WL_box (cs := [u2, (.int .i64 a2.2)]) hC0 rfl rfl rfl (fun b1 w1 hC1 hB1 => ?_)
  refine WL_assign rfl rfl ?_
  refine WL_nil ?_
  refine W_seq ?_
  refine W_seq_reg ?_
  refine WL_move rfl rfl ?_
  refine WL_len Try.underlying22 g1 rfl rfl ?_
  refine WL_gtr rfl rfl rfl ?_
  refine WL_nil ?_
  refine W_cond rfl (fun hc1 => ?_) (fun hc1 => ?_)
  · replace hF := ite_t hF hc1
    refine W_seq_reg ?_
    refine WL_assign rfl rfl ?_
    refine WL_nil ?_
    refine W_ret ?_
    refine nrm_ret ?_
    have hq1 := Option.some.inj hF
    subst hq1
    refine fn_ret1 rfl rfl ?_
    exact ⟨_, rfl, bool_res hC1 _⟩
  · replace hF := ite_f hF hc1
    refine W_skip ?_
    refine nrm_normal ?_
    refine W_seq_reg ?_
    refine WL_assign rfl rfl ?_
    refine WL_nil ?_
    refine W_seq_reg ?_
    refine WL_load_box_agg [u2, (.int .i64 a2.2)] hC1 0 rfl rfl rfl Try.isAgg65 Try.sizeOf65 rfl rfl ?_
    refine WL_move rfl rfl ?_
    obtain ⟨x1, hr1, hF⟩ := bind_some hF
    refine WL_call Try.call41 rfl rfl (c_Q_szSource (a2.1, a2.2) u2 (g2.now hC1.keep) 1048576 x1 hr1) ?_
    intro _ w2 hv1
    obtain ⟨rfl, hB2⟩ := res_int hv1
    have hC2 := hC1.grow hB2
    refine WL_assign rfl rfl ?_
    refine WL_nil ?_
    refine W_seq ?_
    refine W_seq_reg ?_
    refine WL_move rfl rfl ?_
    refine WL_lss rfl rfl rfl ?_
    refine WL_nil ?_
    refine W_cond rfl (fun hc2 => ?_) (fun hc2 => ?_)
    · replace hF := ite_t hF hc2
      refine W_seq_reg ?_
      refine WL_assign rfl rfl ?_
      refine WL_nil ?_
      refine W_ret ?_
      refine nrm_ret ?_
      have hq2 := Option.some.inj hF
      subst hq2
      refine fn_ret1 rfl rfl ?_
      exact ⟨_, rfl, bool_res hC2 _⟩
    · replace hF := ite_f hF hc2
      refine W_skip ?_
      refine nrm_normal ?_
      refine W_seq_reg ?_
      refine WL_move rfl rfl ?_
      refine WL_move rfl rfl ?_
      obtain ⟨x2, hr2, hF⟩ := bind_some hF
      refine WL_call Try.call53 rfl rfl (c_Q_szChangeS a3 u3 (g3.now hC2.keep) x1 x2 hr2) ?_
      intro _ w3 hv2
      obtain ⟨rfl, hB3⟩ := res_int hv2
      have hC3 := hC2.grow hB3
      refine WL_assign rfl rfl ?_
      refine WL_nil ?_
      refine W_seq ?_
      refine W_seq_reg ?_
      refine WL_move rfl rfl ?_
      refine WL_lss rfl rfl rfl ?_
      refine WL_nil ?_
      refine W_cond rfl (fun hc3 => ?_) (fun hc3 => ?_)
      · replace hF := ite_t hF hc3
        refine W_seq_reg ?_
        refine WL_assign rfl rfl ?_
        refine WL_nil ?_
        refine W_ret ?_
        refine nrm_ret ?_
        have hq3 := Option.some.inj hF
        subst hq3
        refine fn_ret1 rfl rfl ?_
        exact ⟨_, rfl, bool_res hC3 _⟩
      · replace hF := ite_f hF hc3
        refine W_skip ?_
        refine nrm_normal ?_
        refine W_seq ?_
        refine W_drawn 9 rfl hmix (fun w4 hB4 => ?_)
        have hC4 := hC3.grow hB4
        refine WA_take 0 rfl (by kernel_rfl) (by kernel_rfl) (by kernel_rfl) rfl (fl_move rfl) ?_
        refine WL_move rfl rfl ?_
        refine WL_nil ?_
        refine WA_take 4 rfl (by kernel_rfl) (by kernel_rfl) (by kernel_rfl) rfl (fl_move rfl) ?_
        refine WL_move rfl rfl ?_
        refine WL_nil ?_
        obtain ⟨x3, hr3, hF⟩ := bind_some hF
        obtain ⟨x4, hr4, hF⟩ := bind_some hF
        obtain ⟨x5, hr5, hF⟩ := bind_some hF
        obtain ⟨x6, hr6, hF⟩ := bind_some hF
        refine WA.sub (l' := [(0, u1), (1, (.agg #[u2, (.int .i64 a2.2)])), (2, u3), (4, (ptr b1 0)), (6, (.bool false)), (7, (.int .i64 x2)), (17, u1), (18, (.int .i64 (List.length a1 : Int))), (19, (.bool (decide (1048576 < (List.length a1 : Int))))), (20, (.agg #[u2, (.int .i64 a2.2)])), (21, (.int .i64 1048576)), (22, (.int .i64 x1)), (23, (.int .i64 x1)), (24, (.bool (decide (x1 < 0)))), (25, u3), (26, (.int .i64 x1)), (27, (.int .i64 x2)), (28, (.int .i64 x2)), (29, (.bool (decide (x2 < 0)))), (30, u1), (34, u3)]) ?_ ⟨rfl, rfl, rfl, rfl, rfl, rfl, rfl, rfl, rfl, rfl, rfl, rfl, rfl, rfl, rfl, rfl, rfl, rfl, rfl, rfl, rfl, trivial⟩
        refine WA_postsE [⟨1, [], fun vs => PW.own x3, []⟩, ⟨2, [], fun vs => PW.val (.agg #[u2, (.int .i64 a2.2)]), []⟩, ⟨3, [], fun vs => PW.own x4, []⟩, ⟨5, [], fun vs => PW.own x5, []⟩, ⟨6, [], fun vs => PW.own x6, []⟩, ⟨7, [], fun vs => PW.box [(.slice none 0 0), (.int .i64 0)], []⟩] [[], [], [2], [], [1, 3, 5], []] 1 rfl (by kernel_rfl) (by kernel_rfl) rfl ?_ ?_
        · refine StepsE_cons rfl ?_ ?_
          · intro w10 hB10
            refine DepsE_nil ?_
            refine ⟨_, rfl, ?_⟩
            refine WL_call Try.call15 rfl rfl (c_Q_toIntS a1 u1 (g1.now (hC4.keep.then hB10)) x3 hr3) ?_
            rintro v1 w5 ⟨hB5, F1, hv3, hn1, hb1⟩
            refine WL_nil ?_
            exact FinE_own hB5 rfl rfl hv3 hn1 hb1 (Val.inh hv3)
          refine StepsE_cons rfl ?_ ?_
          · intro w10 hB10
            refine DepsE_nil ?_
            refine ⟨_, rfl, ?_⟩
            refine WL_load_box_agg [u2, (.int .i64 a2.2)] (hC4.grow hB10) 0 rfl rfl rfl Try.isAgg65 Try.sizeOf65 rfl rfl ?_
            refine WL_nil ?_
            exact FinE_val (Below.refl _ _) rfl rfl ⟨rfl, rfl⟩
          refine StepsE_cons rfl ?_ ?_
          · intro w10 hB10
            refine DepsE_cons rfl rfl rfl ?_
            rintro _ _ ⟨rfl, rfl⟩ _
            refine DepsE_nil ?_
            refine ⟨_, rfl, ?_⟩
            refine WL_call Try.call44 rfl rfl (c_Q_toSource (a2.1, a2.2) u2 (g2.now (hC4.keep.then hB10)) x4 hr4) ?_
            rintro v2 w6 ⟨hB6, F2, hv4, hn2, hb2⟩
            refine WL_nil ?_
            exact FinE_own hB6 rfl rfl hv4 hn2 hb2 (Val.inh hv4)
          refine StepsE_cons rfl ?_ ?_
          · intro w10 hB10
            refine DepsE_nil ?_
            refine ⟨_, rfl, ?_⟩
            refine WL_call Try.call55 rfl rfl (c_Q_toChangeS a3 u3 (g3.now (hC4.keep.then hB10)) x5 hr5) ?_
            rintro v4 w7 ⟨hB7, F3, hv5, hn3, hb3⟩
            refine WL_nil ?_
            exact FinE_own hB7 rfl rfl hv5 hn3 hb3 (Val.inh hv5)
          refine StepsE_cons rfl ?_ ?_
          · intro w10 hB10
            refine DepsE_cons rfl rfl rfl ?_
            intro v1 F1 hv3 _
            refine DepsE_cons rfl rfl rfl ?_
            intro v2 F2 hv4 _
            obtain ⟨v3, rfl, h1⟩ := ro_st73 (ro_of_own hv4)
            refine DepsE_cons rfl rfl rfl ?_
            intro v4 F3 hv5 _
            refine DepsE_nil ?_
            refine ⟨_, rfl, ?_⟩
            refine WL_call Try.call54 rfl rfl (c_S_ApplyChanges x3 v1 (ro_of_own hv3) x4 v3 (h1.now (Keep.refl _ _)) x5 v4 (ro_of_own hv5) x6 hr6) ?_
            rintro v5 w8 ⟨hB8, F4, hv6, hn4, hb4⟩
            refine WL_nil ?_
            exact FinE_own hB8 rfl rfl hv6 hn4 hb4 (Val.inh hv6)
          refine StepsE_cons rfl ?_ ?_
          · intro w10 hB10
            refine DepsE_nil ?_
            refine ⟨_, rfl, ?_⟩
            refine WL_alloc (Ctx.start _) zero73 rfl rfl (fun b2 w9 hC5 hB9 => ?_)
            refine WL_nil ?_
            exact FinE_ctx hC5 rfl rfl (fun F h => ⟨b2, rfl, h⟩)
          exact StepsE_nil
        · intro w11 hB11
          refine AllE_cons rfl rfl rfl ?_
          intro v1 F1 hv3
          refine AllE_cons rfl rfl rfl ?_
          rintro _ _ ⟨rfl, rfl⟩
          refine AllE_cons rfl rfl rfl ?_
          intro v2 F2 hv4
          refine AllE_cons rfl rfl rfl ?_
          intro v4 F3 hv5
          refine AllE_cons rfl rfl rfl ?_
          intro v5 F4 hv6
          refine AllE_cons rfl rfl rfl ?_
          rintro _ F5 ⟨b2, rfl, hv7⟩
          refine AllE_nil ?_
          intro hn5 hb5
          have hC6 := hC4.pushL hB11 (Bs := [Item.box b2 [(.slice none 0 0), (.int .i64 0)], Item.own v5 (x6 : ((List (Int × (List Int))) × Int)), Item.own v4 (x5 : (List (Bool × (Int × (List Int))))), Item.own v2 (x4 : ((List (Int × (List Int))) × Int)), Item.own v1 (x3 : (List Int))]) (Fs := [F5, F4, F3, F2, F1]) ⟨F5, _, rfl, hv7, F4, _, rfl, hv6, F3, _, rfl, hv5, F2, _, rfl, hv4, F1, _, rfl, hv3, rfl⟩ (by simpa using hn5) (fun b h => (hb5 b (by simpa using h)).1)
          have hC7 : Ctx [] w0 _ [Item.own v2 (x4 : ((List (Int × (List Int))) × Int)), Item.box b2 [(.slice none 0 0), (.int .i64 0)], Item.own v5 (x6 : ((List (Int × (List Int))) × Int)), Item.own v4 (x5 : (List (Bool × (Int × (List Int))))), Item.own v1 (x3 : (List Int)), Item.box b1 [u2, (.int .i64 a2.2)]] := hC6.front 3 rfl
          obtain ⟨v7, rfl, hC8⟩ := st73_own hC7
          have hC9 : Ctx [] w0 _ [Item.own v5 (x6 : ((List (Int × (List Int))) × Int)), Item.own v7 (x4.1 : (List (Int × (List Int)))), Item.box b2 [(.slice none 0 0), (.int .i64 0)], Item.own v4 (x5 : (List (Bool × (Int × (List Int))))), Item.own v1 (x3 : (List Int)), Item.box b1 [u2, (.int .i64 a2.2)]] := hC8.front 2 rfl
          obtain ⟨v8, rfl, hC10⟩ := st73_own hC9
          refine WA_one 8 (by kernel_rfl) rfl ?_
          refine WL_store_box_agg (cs' := [v8, (.int .i64 x6.2)]) (new := [v8, (.int .i64 x6.2)]) hC10 2 rfl rfl (by intro v hv; simp only [List.mem_cons, List.not_mem_nil, or_false] at hv; rcases hv with rfl | rfl; exact (ro_one (hC10.ro 0 rfl)); exact rfl) rfl Try.sizeOf73 rfl rfl (fun w12 hC11 => ?_)
          try dsimp only [List.set] at hC11
          refine WL_nil ?_
          refine WA_done (by kernel_rfl) ?_
          refine nrm_normal ?_
          refine W_seq_reg ?_
          refine WL_move rfl rfl ?_
          obtain ⟨x7, hr7, hF⟩ := bind_some hF
          refine WL_call Try.call15 rfl rfl (c_Q_toIntS a1 u1 (g1.now hC11.keep) x7 hr7) ?_
          rintro v9 w13 ⟨hB12, F6, hv8, hn6, hb6⟩
          have hC12 := hC11.push hB12 (A := Item.own v9 x7) hv8 hn6 hb6
          refine WL_assign rfl rfl ?_
          refine WL_nil ?_
          refine W_seq_reg ?_
          refine WL_load_box_agg [u2, (.int .i64 a2.2)] hC12 6 rfl rfl rfl Try.isAgg65 Try.sizeOf65 rfl rfl ?_
          obtain ⟨x8, hr8, hF⟩ := bind_some hF
          refine WL_call Try.call44 rfl rfl (c_Q_toSource (a2.1, a2.2) u2 (g2.now hC12.keep) x8 hr8) ?_
          rintro v10 w14 ⟨hB13, F7, hv9, hn7, hb7⟩
          have hC13 := hC12.push hB13 (A := Item.own v10 x8) hv9 hn7 hb7
          obtain ⟨v11, rfl, hC14⟩ := st73_own hC13
          refine WL_alloc hC14 zero73 rfl rfl (fun b3 w15 hC15 hB14 => ?_)
          refine WL_store_box_agg (cs' := [v11, (.int .i64 x8.2)]) (new := [v11, (.int .i64 x8.2)]) hC15 0 rfl rfl (by intro v hv; simp only [List.mem_cons, List.not_mem_nil, or_false] at hv; rcases hv with rfl | rfl; exact (ro_one (hC15.ro 1 rfl)); exact rfl) rfl Try.sizeOf73 rfl rfl (fun w16 hC16 => ?_)
          try dsimp only [List.set] at hC16
          refine WL_nil ?_
          refine W_seq_reg ?_
          refine WL_move rfl rfl ?_
          obtain ⟨x9, hr9, hF⟩ := bind_some hF
          refine WL_call Try.call55 rfl rfl (c_Q_toChangeS a3 u3 (g3.now hC16.keep) x9 hr9) ?_
          rintro v12 w17 ⟨hB15, F8, hv10, hn8, hb8⟩
          have hC17 := hC16.push hB15 (A := Item.own v12 x9) hv10 hn8 hb8
          refine WL_assign rfl rfl ?_
          refine WL_nil ?_
          refine W_seq_reg ?_
          refine WL_move rfl rfl ?_
          refine WL_load_box_agg [v11, (.int .i64 x8.2)] hC17 1 rfl rfl rfl Try.isAgg73 Try.sizeOf73 rfl rfl ?_
          refine WL_move rfl rfl ?_
          obtain ⟨x10, hr10, hF⟩ := bind_some hF
          refine WL_call Try.call56 rfl rfl (c_M_ApplyChanges x7 v9 ((hC17.ro 3 rfl).now (Keep.refl _ _)) (x8.1, x8.2) v11 ((hC17.ro 2 rfl).now (Keep.refl _ _)) x9 v12 ((hC17.ro 0 rfl).now (Keep.refl _ _)) x10 hr10) ?_
          rintro v13 w18 ⟨hB16, F9, hv11, hn9, hb9⟩
          have hC18 := hC17.push hB16 (A := Item.own v13 x10) hv11 hn9 hb9
          obtain ⟨v14, rfl, hC19⟩ := st73_own hC18
          refine WL_alloc hC19 zero73 rfl rfl (fun b4 w19 hC20 hB17 => ?_)
          refine WL_store_box_agg (cs' := [v14, (.int .i64 x10.2)]) (new := [v14, (.int .i64 x10.2)]) hC20 0 rfl rfl (by intro v hv; simp only [List.mem_cons, List.not_mem_nil, or_false] at hv; rcases hv with rfl | rfl; exact (ro_one (hC20.ro 1 rfl)); exact rfl) rfl Try.sizeOf73 rfl rfl (fun w20 hC21 => ?_)
          try dsimp only [List.set] at hC21
          refine WL_nil ?_
          refine W_seq ?_
          refine W_seq_reg ?_
          refine WL_load_box_agg [v14, (.int .i64 x10.2)] hC21 0 rfl rfl rfl Try.isAgg73 Try.sizeOf73 rfl rfl ?_
          refine WL_load_box_agg [v8, (.int .i64 x6.2)] hC21 8 rfl rfl rfl Try.isAgg73 Try.sizeOf73 rfl rfl ?_
          obtain ⟨x11, hr11, hF⟩ := bind_some hF
          refine WL_call Try.call47 rfl rfl (c_Q_eqSource (x10.1, x10.2) v14 ((hC21.ro 1 rfl).now (Keep.refl _ _)) (x6.1, x6.2) v8 ((hC21.ro 6 rfl).now (Keep.refl _ _)) x11 hr11) ?_
          intro _ w21 hv12
          obtain ⟨rfl, hB18⟩ := res_bool hv12
          have hC22 := hC21.grow hB18
          refine WL_not rfl rfl ?_
          refine WL_nil ?_
          refine W_cond rfl (fun hc4 => ?_) (fun hc4 => ?_)
          · replace hF := ite_t hF hc4
            refine W_seq_reg ?_
            refine WL_assign rfl rfl ?_
            refine WL_nil ?_
            refine W_ret ?_
            refine nrm_ret ?_
            have hq4 := Option.some.inj hF
            subst hq4
            refine fn_ret1 rfl rfl ?_
            exact ⟨_, rfl, bool_res hC22 _⟩
          · replace hF := ite_f hF hc4
            refine W_skip ?_
            refine nrm_normal ?_
            refine W_seq ?_
            refine W_seq_reg ?_
            refine WL_move rfl rfl ?_
            refine WL_move rfl rfl ?_
            obtain ⟨x12, hr12, hF⟩ := bind_some hF
            refine WL_call Try.call15 rfl rfl (c_Q_toIntS a1 u1 (g1.now hC22.keep) x12 hr12) ?_
            rintro v15 w22 ⟨hB19, F10, hv13, hn10, hb10⟩
            have hC23 := hC22.push hB19 (A := Item.own v15 x12) hv13 hn10 hb10
            obtain ⟨x13, hr13, hF⟩ := bind_some hF
            refine WL_call Try.call19 rfl rfl (c_Q_eqIntS x7 v9 ((hC23.ro 6 rfl).now (Keep.refl _ _)) x12 v15 ((hC23.ro 0 rfl).now (Keep.refl _ _)) x13 hr13) ?_
            intro _ w23 hv14
            obtain ⟨rfl, hB20⟩ := res_bool hv14
            have hC24 := hC23.grow hB20
            refine WL_not rfl rfl ?_
            refine WL_nil ?_
            refine W_cond rfl (fun hc5 => ?_) (fun hc5 => ?_)
            · replace hF := ite_t hF hc5
              refine W_seq_reg ?_
              refine WL_assign rfl rfl ?_
              refine WL_nil ?_
              refine W_ret ?_
              refine nrm_ret ?_
              have hq5 := Option.some.inj hF
              subst hq5
              refine fn_ret1 rfl rfl ?_
              exact ⟨_, rfl, bool_res hC24 _⟩
            · replace hF := ite_f hF hc5
              refine W_skip ?_
              refine nrm_normal ?_
              refine W_seq ?_
              refine W_seq ?_
              refine W_drawn 5 rfl hmix (fun w24 hB21 => ?_)
              have hC25 := hC24.grow hB21
              obtain ⟨x14, hr14, hF⟩ := bind_some hF
              refine WA.sub (l' := [(0, u1), (1, (.agg #[u2, (.int .i64 a2.2)])), (2, u3), (4, (ptr b1 0)), (6, (.bool false)), (7, (.int .i64 x2)), (8, (ptr b2 0)), (9, v9), (10, (ptr b3 0)), (11, v12), (12, (ptr b4 0)), (17, u1), (18, (.int .i64 (List.length a1 : Int))), (19, (.bool (decide (1048576 < (List.length a1 : Int))))), (20, (.agg #[u2, (.int .i64 a2.2)])), (21, (.int .i64 1048576)), (22, (.int .i64 x1)), (23, (.int .i64 x1)), (24, (.bool (decide (x1 < 0)))), (25, u3), (26, (.int .i64 x1)), (27, (.int .i64 x2)), (28, (.int .i64 x2)), (29, (.bool (decide (x2 < 0)))), (30, u1), (31, v1), (32, (.agg #[u2, (.int .i64 a2.2)])), (33, (.agg #[v7, (.int .i64 x4.2)])), (34, u3), (35, v4), (36, (.agg #[v8, (.int .i64 x6.2)])), (37, u1), (38, v9), (39, (.agg #[u2, (.int .i64 a2.2)])), (40, (.agg #[v11, (.int .i64 x8.2)])), (41, u3), (42, v12), (43, v9), (44, (.agg #[v11, (.int .i64 x8.2)])), (45, v12), (46, (.agg #[v14, (.int .i64 x10.2)])), (47, (.agg #[v14, (.int .i64 x10.2)])), (48, (.agg #[v8, (.int .i64 x6.2)])), (49, (.bool x11)), (50, (.bool (!x11))), (51, v9), (52, u1), (53, v15), (54, (.bool x13)), (55, (.bool (!x13)))]) ?_ ⟨rfl, rfl, rfl, rfl, rfl, rfl, rfl, rfl, rfl, rfl, rfl, rfl, rfl, rfl, rfl, rfl, rfl, rfl, rfl, rfl, rfl, rfl, rfl, rfl, rfl, rfl, rfl, rfl, rfl, rfl, rfl, rfl, rfl, rfl, rfl, rfl, rfl, rfl, rfl, rfl, rfl, rfl, rfl, rfl, rfl, rfl, rfl, rfl, rfl, rfl, trivial⟩
              refine WA_postsE [⟨0, [], fun vs => PW.val (.agg #[v11, (.int .i64 x8.2)]), []⟩, ⟨1, [], fun vs => PW.val (.agg #[u2, (.int .i64 a2.2)]), []⟩, ⟨2, [], fun vs => PW.own x14, []⟩] [[], [], [1]] 2 rfl (by kernel_rfl) (by kernel_rfl) rfl ?_ ?_
              · refine StepsE_cons rfl ?_ ?_
                · intro w26 hB23
                  refine DepsE_nil ?_
                  refine ⟨_, rfl, ?_⟩
                  refine WL_load_box_agg [v11, (.int .i64 x8.2)] (hC25.grow hB23) 4 rfl rfl rfl Try.isAgg73 Try.sizeOf73 rfl rfl ?_
                  refine WL_nil ?_
                  exact FinE_val (Below.refl _ _) rfl rfl ⟨rfl, rfl⟩
                refine StepsE_cons rfl ?_ ?_
                · intro w26 hB23
                  refine DepsE_nil ?_
                  refine ⟨_, rfl, ?_⟩
                  refine WL_load_box_agg [u2, (.int .i64 a2.2)] (hC25.grow hB23) 12 rfl rfl rfl Try.isAgg65 Try.sizeOf65 rfl rfl ?_
                  refine WL_nil ?_
                  exact FinE_val (Below.refl _ _) rfl rfl ⟨rfl, rfl⟩
                refine StepsE_cons rfl ?_ ?_
                · intro w26 hB23
                  refine DepsE_cons rfl rfl rfl ?_
                  rintro _ _ ⟨rfl, rfl⟩ _
                  refine DepsE_nil ?_
                  refine ⟨_, rfl, ?_⟩
                  refine WL_call Try.call44 rfl rfl (c_Q_toSource (a2.1, a2.2) u2 (g2.now (hC25.keep.then hB23)) x14 hr14) ?_
                  rintro v16 w25 ⟨hB22, F11, hv15, hn11, hb11⟩
                  refine WL_nil ?_
                  exact FinE_own hB22 rfl rfl hv15 hn11 hb11 (Val.inh hv15)
                exact StepsE_nil
              · intro w27 hB24
                refine AllE_cons rfl rfl rfl ?_
                rintro _ _ ⟨rfl, rfl⟩
                refine AllE_cons rfl rfl rfl ?_
                rintro _ _ ⟨rfl, rfl⟩
                refine AllE_cons rfl rfl rfl ?_
                intro v16 F11 hv15
                refine AllE_nil ?_
                intro hn12 hb12
                have hC26 := hC25.pushL hB24 (Bs := [Item.own v16 (x14 : ((List (Int × (List Int))) × Int))]) (Fs := [F11]) ⟨F11, _, rfl, hv15, rfl⟩ (by simpa using hn12) (fun b h => (hb12 b (by simpa using h)).1)
                obtain ⟨v18, rfl, hC27⟩ := st73_own hC26
                obtain ⟨x15, hr15, hF⟩ := bind_some hF
                refine WA_one 3 (by kernel_rfl) rfl ?_
                refine WL_call Try.call47 rfl rfl (c_Q_eqSource (x8.1, x8.2) v11 ((hC27.ro 6 rfl).now (Keep.refl _ _)) x14 v18 ((hC27.ro 0 rfl).now (Keep.refl _ _)) x15 hr15) ?_
                intro _ w28 hv16
                obtain ⟨rfl, hB25⟩ := res_bool hv16
                have hC28 := hC27.grow hB25
                refine WL_nil ?_
                refine WA_take 4 rfl (by kernel_rfl) (by kernel_rfl) (by kernel_rfl) rfl (fl_not rfl) ?_
                refine WL_not rfl rfl ?_
                refine WL_nil ?_
                refine WA_done (by kernel_rfl) ?_
                refine nrm_normal ?_
                refine W_cond rfl (fun hc6 => ?_) (fun hc6 => ?_)
                · replace hF := ite_t hF hc6
                  refine W_seq_reg ?_
                  refine WL_assign rfl rfl ?_
                  refine WL_nil ?_
                  refine W_ret ?_
                  refine nrm_ret ?_
                  have hq6 := Option.some.inj hF
                  subst hq6
                  refine fn_ret1 rfl rfl ?_
                  exact ⟨_, rfl, bool_res hC28 _⟩
                · replace hF := ite_f hF hc6
                  refine W_skip ?_
                  refine nrm_normal ?_
                  refine W_seq ?_
                  refine W_seq_reg ?_
                  refine WL_move rfl rfl ?_
                  refine WL_move rfl rfl ?_
                  obtain ⟨x16, hr16, hF⟩ := bind_some hF
                  refine WL_call Try.call55 rfl rfl (c_Q_toChangeS a3 u3 (g3.now hC28.keep) x16 hr16) ?_
                  rintro v19 w29 ⟨hB26, F12, hv17, hn13, hb13⟩
                  have hC29 := hC28.push hB26 (A := Item.own v19 x16) hv17 hn13 hb13
                  obtain ⟨x17, hr17, hF⟩ := bind_some hF
                  refine WL_call Try.call57 rfl rfl (c_Q_eqChangeS x9 v12 ((hC29.ro 5 rfl).now (Keep.refl _ _)) x16 v19 ((hC29.ro 0 rfl).now (Keep.refl _ _)) x17 hr17) ?_
                  intro _ w30 hv18
                  obtain ⟨rfl, hB27⟩ := res_bool hv18
                  have hC30 := hC29.grow hB27
                  refine WL_not rfl rfl ?_
                  refine WL_nil ?_
                  refine W_cond rfl (fun hc7 => ?_) (fun hc7 => ?_)
                  · replace hF := ite_t hF hc7
                    refine W_seq_reg ?_
                    refine WL_assign rfl rfl ?_
                    refine WL_nil ?_
                    refine W_ret ?_
                    refine nrm_ret ?_
                    have hq7 := Option.some.inj hF
                    subst hq7
                    refine fn_ret1 rfl rfl ?_
                    exact ⟨_, rfl, bool_res hC30 _⟩
                  · replace hF := ite_f hF hc7
                    refine W_skip ?_
                    refine nrm_normal ?_
                    refine W_seq_reg ?_
                    refine WL_assign rfl rfl ?_
                    refine WL_nil ?_
                    refine W_seq_reg ?_
                    refine WL_move rfl rfl ?_
                    refine WL_move rfl rfl ?_
                    obtain ⟨x18, hr18, hF⟩ := bind_some hF
                    have hC31 : Ctx [] w0 _ [Item.own v9 (x7 : (List Int)), Item.own v19 (x16 : (List (Bool × (Int × (List Int))))), Item.own v18 (x14.1 : (List (Int × (List Int)))), Item.own v15 (x12 : (List Int)), Item.box b4 [v14, (.int .i64 x10.2)], Item.own v14 (x10.1 : (List (Int × (List Int)))), Item.own v12 (x9 : (List (Bool × (Int × (List Int))))), Item.box b3 [v11, (.int .i64 x8.2)], Item.own v11 (x8.1 : (List (Int × (List Int)))), Item.own v8 (x6.1 : (List (Int × (List Int)))), Item.own v7 (x4.1 : (List (Int × (List Int)))), Item.box b2 [v8, (.int .i64 x6.2)], Item.own v4 (x5 : (List (Bool × (Int × (List Int))))), Item.own v1 (x3 : (List Int)), Item.box b1 [u2, (.int .i64 a2.2)]] := hC30.front 8 rfl
                    obtain ⟨Fs1, hH1, hn14, hF1, hO1, hb14⟩ := Ctx.lend2 (As := [Item.own v19 (x16 : (List (Bool × (Int × (List Int))))), Item.own v18 (x14.1 : (List (Int × (List Int)))), Item.own v15 (x12 : (List Int)), Item.box b4 [v14, (.int .i64 x10.2)], Item.own v14 (x10.1 : (List (Int × (List Int)))), Item.own v12 (x9 : (List (Bool × (Int × (List Int))))), Item.box b3 [v11, (.int .i64 x8.2)], Item.own v11 (x8.1 : (List (Int × (List Int)))), Item.own v8 (x6.1 : (List (Int × (List Int)))), Item.own v7 (x4.1 : (List (Int × (List Int)))), Item.box b2 [v8, (.int .i64 x6.2)], Item.own v4 (x5 : (List (Bool × (Int × (List Int))))), Item.own v1 (x3 : (List Int)), Item.box b1 [u2, (.int .i64 a2.2)]]) [Item.own v9 (x7 : (List Int))] hC31
                    refine WL_call Try.call49 rfl rfl (c_Q_markIntS x7 v9 1 hH1 hn14 x18 hr18) ?_
                    rintro _ w31 ⟨rfl, hq8⟩
                    have hC32 : Ctx [] w0 w31 [Item.own v9 (x18.2 : (List Int)), Item.own v19 (x16 : (List (Bool × (Int × (List Int))))), Item.own v18 (x14.1 : (List (Int × (List Int)))), Item.own v15 (x12 : (List Int)), Item.box b4 [v14, (.int .i64 x10.2)], Item.own v14 (x10.1 : (List (Int × (List Int)))), Item.own v12 (x9 : (List (Bool × (Int × (List Int))))), Item.box b3 [v11, (.int .i64 x8.2)], Item.own v11 (x8.1 : (List (Int × (List Int)))), Item.own v8 (x6.1 : (List (Int × (List Int)))), Item.own v7 (x4.1 : (List (Int × (List Int)))), Item.box b2 [v8, (.int .i64 x6.2)], Item.own v4 (x5 : (List (Bool × (Int × (List Int))))), Item.own v1 (x3 : (List Int)), Item.box b1 [u2, (.int .i64 a2.2)]] := hb14 _ _ hq8
                    refine WL_assign rfl rfl ?_
                    refine WL_nil ?_
                    refine W_seq_reg ?_
                    refine WL_load_box_agg [v11, (.int .i64 x8.2)] hC32 7 rfl rfl rfl Try.isAgg73 Try.sizeOf73 rfl rfl ?_
                    refine WL_move rfl rfl ?_
                    obtain ⟨x19, hr19, hF⟩ := bind_some hF
                    have hC33 : Ctx [] w0 _ [Item.own v11 (x8.1 : (List (Int × (List Int)))), Item.own v9 (x18.2 : (List Int)), Item.own v19 (x16 : (List (Bool × (Int × (List Int))))), Item.own v18 (x14.1 : (List (Int × (List Int)))), Item.own v15 (x12 : (List Int)), Item.box b4 [v14, (.int .i64 x10.2)], Item.own v14 (x10.1 : (List (Int × (List Int)))), Item.own v12 (x9 : (List (Bool × (Int × (List Int))))), Item.box b3 [v11, (.int .i64 x8.2)], Item.own v8 (x6.1 : (List (Int × (List Int)))), Item.own v7 (x4.1 : (List (Int × (List Int)))), Item.box b2 [v8, (.int .i64 x6.2)], Item.own v4 (x5 : (List (Bool × (Int × (List Int))))), Item.own v1 (x3 : (List Int)), Item.box b1 [u2, (.int .i64 a2.2)]] := hC32.front 8 rfl
                    obtain ⟨Fs2, hH2, hn15, hF2, hO2, hb15⟩ := Ctx.lend2 (As := [Item.own v9 (x18.2 : (List Int)), Item.own v19 (x16 : (List (Bool × (Int × (List Int))))), Item.own v18 (x14.1 : (List (Int × (List Int)))), Item.own v15 (x12 : (List Int)), Item.box b4 [v14, (.int .i64 x10.2)], Item.own v14 (x10.1 : (List (Int × (List Int)))), Item.own v12 (x9 : (List (Bool × (Int × (List Int))))), Item.box b3 [v11, (.int .i64 x8.2)], Item.own v8 (x6.1 : (List (Int × (List Int)))), Item.own v7 (x4.1 : (List (Int × (List Int)))), Item.box b2 [v8, (.int .i64 x6.2)], Item.own v4 (x5 : (List (Bool × (Int × (List Int))))), Item.own v1 (x3 : (List Int)), Item.box b1 [u2, (.int .i64 a2.2)]]) [Item.own v11 (x8.1 : (List (Int × (List Int))))] hC33
                    refine WL_call Try.call50 rfl rfl (c_Q_markSource (x8.1, x8.2) v11 x18.1 hH2 hn15 x19 hr19) ?_
                    rintro _ w32 ⟨rfl, hq9⟩
                    have hC34 : Ctx [] w0 w32 [Item.own v11 (x19.2.1 : (List (Int × (List Int)))), Item.own v9 (x18.2 : (List Int)), Item.own v19 (x16 : (List (Bool × (Int × (List Int))))), Item.own v18 (x14.1 : (List (Int × (List Int)))), Item.own v15 (x12 : (List Int)), Item.box b4 [v14, (.int .i64 x10.2)], Item.own v14 (x10.1 : (List (Int × (List Int)))), Item.own v12 (x9 : (List (Bool × (Int × (List Int))))), Item.box b3 [v11, (.int .i64 x8.2)], Item.own v8 (x6.1 : (List (Int × (List Int)))), Item.own v7 (x4.1 : (List (Int × (List Int)))), Item.box b2 [v8, (.int .i64 x6.2)], Item.own v4 (x5 : (List (Bool × (Int × (List Int))))), Item.own v1 (x3 : (List Int)), Item.box b1 [u2, (.int .i64 a2.2)]] := hb15 _ _ hq9
                    refine WL_assign rfl rfl ?_
                    refine WL_nil ?_
                    refine W_seq_reg ?_
                    refine WL_move rfl rfl ?_
                    refine WL_move rfl rfl ?_
                    obtain ⟨x20, hr20, hF⟩ := bind_some hF
                    have hC35 : Ctx [] w0 _ [Item.own v12 (x9 : (List (Bool × (Int × (List Int))))), Item.own v11 (x19.2.1 : (List (Int × (List Int)))), Item.own v9 (x18.2 : (List Int)), Item.own v19 (x16 : (List (Bool × (Int × (List Int))))), Item.own v18 (x14.1 : (List (Int × (List Int)))), Item.own v15 (x12 : (List Int)), Item.box b4 [v14, (.int .i64 x10.2)], Item.own v14 (x10.1 : (List (Int × (List Int)))), Item.box b3 [v11, (.int .i64 x8.2)], Item.own v8 (x6.1 : (List (Int × (List Int)))), Item.own v7 (x4.1 : (List (Int × (List Int)))), Item.box b2 [v8, (.int .i64 x6.2)], Item.own v4 (x5 : (List (Bool × (Int × (List Int))))), Item.own v1 (x3 : (List Int)), Item.box b1 [u2, (.int .i64 a2.2)]] := hC34.front 7 rfl
                    obtain ⟨Fs3, hH3, hn16, hF3, hO3, hb16⟩ := Ctx.lend2 (As := [Item.own v11 (x19.2.1 : (List (Int × (List Int)))), Item.own v9 (x18.2 : (List Int)), Item.own v19 (x16 : (List (Bool × (Int × (List Int))))), Item.own v18 (x14.1 : (List (Int × (List Int)))), Item.own v15 (x12 : (List Int)), Item.box b4 [v14, (.int .i64 x10.2)], Item.own v14 (x10.1 : (List (Int × (List Int)))), Item.box b3 [v11, (.int .i64 x8.2)], Item.own v8 (x6.1 : (List (Int × (List Int)))), Item.own v7 (x4.1 : (List (Int × (List Int)))), Item.box b2 [v8, (.int .i64 x6.2)], Item.own v4 (x5 : (List (Bool × (Int × (List Int))))), Item.own v1 (x3 : (List Int)), Item.box b1 [u2, (.int .i64 a2.2)]]) [Item.own v12 (x9 : (List (Bool × (Int × (List Int)))))] hC35
                    refine WL_call Try.call58 rfl rfl (c_Q_markChangeS x9 v12 x19.1 hH3 hn16 x20 hr20) ?_
                    rintro _ w33 ⟨rfl, hq10⟩
                    have hC36 : Ctx [] w0 w33 [Item.own v12 (x20.2 : (List (Bool × (Int × (List Int))))), Item.own v11 (x19.2.1 : (List (Int × (List Int)))), Item.own v9 (x18.2 : (List Int)), Item.own v19 (x16 : (List (Bool × (Int × (List Int))))), Item.own v18 (x14.1 : (List (Int × (List Int)))), Item.own v15 (x12 : (List Int)), Item.box b4 [v14, (.int .i64 x10.2)], Item.own v14 (x10.1 : (List (Int × (List Int)))), Item.box b3 [v11, (.int .i64 x8.2)], Item.own v8 (x6.1 : (List (Int × (List Int)))), Item.own v7 (x4.1 : (List (Int × (List Int)))), Item.box b2 [v8, (.int .i64 x6.2)], Item.own v4 (x5 : (List (Bool × (Int × (List Int))))), Item.own v1 (x3 : (List Int)), Item.box b1 [u2, (.int .i64 a2.2)]] := hb16 _ _ hq10
                    refine WL_assign rfl rfl ?_
                    refine WL_nil ?_
                    refine W_seq ?_
                    obtain ⟨r1, hr21, hF⟩ := bind_some hF
                    refine W_cut (fun l w => ∃ x21 : Bool, x21 = r1 ∧ l = [(0, u1), (2, u3), (4, (ptr b1 0)), (8, (ptr b2 0)), (12, (ptr b4 0)), (82, (.bool x21))] ∧ Below w33.heap.size w33 w ∧ Ctx [] w0 w [Item.box b4 [v14, (.int .i64 x10.2)], Item.own v14 (x10.1 : (List (Int × (List Int)))), Item.own v8 (x6.1 : (List (Int × (List Int)))), Item.box b2 [v8, (.int .i64 x6.2)], Item.box b1 [u2, (.int .i64 a2.2)]]) ?_ ?_
                    · refine W_reg ?_
                      refine WL_move rfl rfl ?_
                      refine WL_lss rfl rfl rfl ?_
                      refine WL_move rfl rfl ?_
                      refine WL_fork (fun hc8 => ?_) (fun hc8 => ?_)
                      · replace hr21 := ite_t hr21 hc8
                        refine WL_guard_skip rfl rfl (by simp) rfl ?_
                        refine WL_guard_skip rfl rfl (by simp) rfl ?_
                        refine WL_guard_skip rfl rfl (by simp) rfl ?_
                        refine WL_guard_skip rfl rfl (by simp) rfl ?_
                        refine WL_pick_t rfl rfl rfl ?_
                        refine WL_nil ?_
                        have hq11 := Option.some.inj hr21
                        subst hq11
                        have hC38 : Ctx [] w0 _ [Item.box b1 [u2, (.int .i64 a2.2)], Item.own v12 (x20.2 : (List (Bool × (Int × (List Int))))), Item.own v11 (x19.2.1 : (List (Int × (List Int)))), Item.own v9 (x18.2 : (List Int)), Item.own v19 (x16 : (List (Bool × (Int × (List Int))))), Item.own v18 (x14.1 : (List (Int × (List Int)))), Item.own v15 (x12 : (List Int)), Item.box b4 [v14, (.int .i64 x10.2)], Item.own v14 (x10.1 : (List (Int × (List Int)))), Item.box b3 [v11, (.int .i64 x8.2)], Item.own v8 (x6.1 : (List (Int × (List Int)))), Item.own v7 (x4.1 : (List (Int × (List Int)))), Item.box b2 [v8, (.int .i64 x6.2)], Item.own v4 (x5 : (List (Bool × (Int × (List Int))))), Item.own v1 (x3 : (List Int))] := hC36.front 14 rfl
                        have hC39 : Ctx [] w0 _ [Item.box b2 [v8, (.int .i64 x6.2)], Item.box b1 [u2, (.int .i64 a2.2)], Item.own v12 (x20.2 : (List (Bool × (Int × (List Int))))), Item.own v11 (x19.2.1 : (List (Int × (List Int)))), Item.own v9 (x18.2 : (List Int)), Item.own v19 (x16 : (List (Bool × (Int × (List Int))))), Item.own v18 (x14.1 : (List (Int × (List Int)))), Item.own v15 (x12 : (List Int)), Item.box b4 [v14, (.int .i64 x10.2)], Item.own v14 (x10.1 : (List (Int × (List Int)))), Item.box b3 [v11, (.int .i64 x8.2)], Item.own v8 (x6.1 : (List (Int × (List Int)))), Item.own v7 (x4.1 : (List (Int × (List Int)))), Item.own v4 (x5 : (List (Bool × (Int × (List Int))))), Item.own v1 (x3 : (List Int))] := hC38.front 12 rfl
                        have hC40 : Ctx [] w0 _ [Item.own v8 (x6.1 : (List (Int × (List Int)))), Item.box b2 [v8, (.int .i64 x6.2)], Item.box b1 [u2, (.int .i64 a2.2)], Item.own v12 (x20.2 : (List (Bool × (Int × (List Int))))), Item.own v11 (x19.2.1 : (List (Int × (List Int)))), Item.own v9 (x18.2 : (List Int)), Item.own v19 (x16 : (List (Bool × (Int × (List Int))))), Item.own v18 (x14.1 : (List (Int × (List Int)))), Item.own v15 (x12 : (List Int)), Item.box b4 [v14, (.int .i64 x10.2)], Item.own v14 (x10.1 : (List (Int × (List Int)))), Item.box b3 [v11, (.int .i64 x8.2)], Item.own v7 (x4.1 : (List (Int × (List Int)))), Item.own v4 (x5 : (List (Bool × (Int × (List Int))))), Item.own v1 (x3 : (List Int))] := hC39.front 11 rfl
                        have hC41 : Ctx [] w0 _ [Item.own v14 (x10.1 : (List (Int × (List Int)))), Item.own v8 (x6.1 : (List (Int × (List Int)))), Item.box b2 [v8, (.int .i64 x6.2)], Item.box b1 [u2, (.int .i64 a2.2)], Item.own v12 (x20.2 : (List (Bool × (Int × (List Int))))), Item.own v11 (x19.2.1 : (List (Int × (List Int)))), Item.own v9 (x18.2 : (List Int)), Item.own v19 (x16 : (List (Bool × (Int × (List Int))))), Item.own v18 (x14.1 : (List (Int × (List Int)))), Item.own v15 (x12 : (List Int)), Item.box b4 [v14, (.int .i64 x10.2)], Item.box b3 [v11, (.int .i64 x8.2)], Item.own v7 (x4.1 : (List (Int × (List Int)))), Item.own v4 (x5 : (List (Bool × (Int × (List Int))))), Item.own v1 (x3 : (List Int))] := hC40.front 10 rfl
                        have hC42 : Ctx [] w0 _ [Item.box b4 [v14, (.int .i64 x10.2)], Item.own v14 (x10.1 : (List (Int × (List Int)))), Item.own v8 (x6.1 : (List (Int × (List Int)))), Item.box b2 [v8, (.int .i64 x6.2)], Item.box b1 [u2, (.int .i64 a2.2)], Item.own v12 (x20.2 : (List (Bool × (Int × (List Int))))), Item.own v11 (x19.2.1 : (List (Int × (List Int)))), Item.own v9 (x18.2 : (List Int)), Item.own v19 (x16 : (List (Bool × (Int × (List Int))))), Item.own v18 (x14.1 : (List (Int × (List Int)))), Item.own v15 (x12 : (List Int)), Item.box b3 [v11, (.int .i64 x8.2)], Item.own v7 (x4.1 : (List (Int × (List Int)))), Item.own v4 (x5 : (List (Bool × (Int × (List Int))))), Item.own v1 (x3 : (List Int))] := hC41.front 10 rfl
                        have hC43 : Ctx [] w0 _ [Item.box b4 [v14, (.int .i64 x10.2)], Item.own v14 (x10.1 : (List (Int × (List Int)))), Item.own v8 (x6.1 : (List (Int × (List Int)))), Item.box b2 [v8, (.int .i64 x6.2)], Item.box b1 [u2, (.int .i64 a2.2)]] := hC42.headN 5
                        refine nrm_sub (l' := [(0, u1), (2, u3), (4, (ptr b1 0)), (8, (ptr b2 0)), (12, (ptr b4 0)), (82, (.bool true))]) ⟨rfl, rfl, rfl, rfl, rfl, rfl, trivial⟩ ?_
                        exact ⟨true, rfl, rfl, (Below.refl _ _), hC43⟩
                      · replace hr21 := ite_f hr21 hc8
                        refine WL_guard rfl rfl ?_
                        refine WL_load_box_agg [v14, (.int .i64 x10.2)] hC36 6 rfl rfl rfl Try.isAgg73 Try.sizeOf73 rfl rfl ?_
                        refine WL_guard rfl rfl ?_
                        refine WL_load_box_agg [v8, (.int .i64 x6.2)] hC36 11 rfl rfl rfl Try.isAgg73 Try.sizeOf73 rfl rfl ?_
                        obtain ⟨x22, hr22, hr21⟩ := bind_some hr21
                        refine WL_guard rfl rfl ?_
                        refine WL_call Try.call47 rfl rfl (c_Q_eqSource (x10.1, x10.2) v14 ((hC36.ro 7 rfl).now (Keep.refl _ _)) (x6.1, x6.2) v8 ((hC36.ro 9 rfl).now (Keep.refl _ _)) x22 hr22) ?_
                        intro _ w35 hv19
                        obtain ⟨rfl, hB29⟩ := res_bool hv19
                        have hC44 := hC36.grow hB29
                        refine WL_guard rfl rfl ?_
                        refine WL_not rfl rfl ?_
                        refine WL_pick_f rfl rfl rfl ?_
                        refine WL_nil ?_
                        have hq12 := Option.some.inj hr21
                        subst hq12
                        have hC45 : Ctx [] w0 _ [Item.box b1 [u2, (.int .i64 a2.2)], Item.own v12 (x20.2 : (List (Bool × (Int × (List Int))))), Item.own v11 (x19.2.1 : (List (Int × (List Int)))), Item.own v9 (x18.2 : (List Int)), Item.own v19 (x16 : (List (Bool × (Int × (List Int))))), Item.own v18 (x14.1 : (List (Int × (List Int)))), Item.own v15 (x12 : (List Int)), Item.box b4 [v14, (.int .i64 x10.2)], Item.own v14 (x10.1 : (List (Int × (List Int)))), Item.box b3 [v11, (.int .i64 x8.2)], Item.own v8 (x6.1 : (List (Int × (List Int)))), Item.own v7 (x4.1 : (List (Int × (List Int)))), Item.box b2 [v8, (.int .i64 x6.2)], Item.own v4 (x5 : (List (Bool × (Int × (List Int))))), Item.own v1 (x3 : (List Int))] := hC44.front 14 rfl
                        have hC46 : Ctx [] w0 _ [Item.box b2 [v8, (.int .i64 x6.2)], Item.box b1 [u2, (.int .i64 a2.2)], Item.own v12 (x20.2 : (List (Bool × (Int × (List Int))))), Item.own v11 (x19.2.1 : (List (Int × (List Int)))), Item.own v9 (x18.2 : (List Int)), Item.own v19 (x16 : (List (Bool × (Int × (List Int))))), Item.own v18 (x14.1 : (List (Int × (List Int)))), Item.own v15 (x12 : (List Int)), Item.box b4 [v14, (.int .i64 x10.2)], Item.own v14 (x10.1 : (List (Int × (List Int)))), Item.box b3 [v11, (.int .i64 x8.2)], Item.own v8 (x6.1 : (List (Int × (List Int)))), Item.own v7 (x4.1 : (List (Int × (List Int)))), Item.own v4 (x5 : (List (Bool × (Int × (List Int))))), Item.own v1 (x3 : (List Int))] := hC45.front 12 rfl
                        have hC47 : Ctx [] w0 _ [Item.own v8 (x6.1 : (List (Int × (List Int)))), Item.box b2 [v8, (.int .i64 x6.2)], Item.box b1 [u2, (.int .i64 a2.2)], Item.own v12 (x20.2 : (List (Bool × (Int × (List Int))))), Item.own v11 (x19.2.1 : (List (Int × (List Int)))), Item.own v9 (x18.2 : (List Int)), Item.own v19 (x16 : (List (Bool × (Int × (List Int))))), Item.own v18 (x14.1 : (List (Int × (List Int)))), Item.own v15 (x12 : (List Int)), Item.box b4 [v14, (.int .i64 x10.2)], Item.own v14 (x10.1 : (List (Int × (List Int)))), Item.box b3 [v11, (.int .i64 x8.2)], Item.own v7 (x4.1 : (List (Int × (List Int)))), Item.own v4 (x5 : (List (Bool × (Int × (List Int))))), Item.own v1 (x3 : (List Int))] := hC46.front 11 rfl
                        have hC48 : Ctx [] w0 _ [Item.own v14 (x10.1 : (List (Int × (List Int)))), Item.own v8 (x6.1 : (List (Int × (List Int)))), Item.box b2 [v8, (.int .i64 x6.2)], Item.box b1 [u2, (.int .i64 a2.2)], Item.own v12 (x20.2 : (List (Bool × (Int × (List Int))))), Item.own v11 (x19.2.1 : (List (Int × (List Int)))), Item.own v9 (x18.2 : (List Int)), Item.own v19 (x16 : (List (Bool × (Int × (List Int))))), Item.own v18 (x14.1 : (List (Int × (List Int)))), Item.own v15 (x12 : (List Int)), Item.box b4 [v14, (.int .i64 x10.2)], Item.box b3 [v11, (.int .i64 x8.2)], Item.own v7 (x4.1 : (List (Int × (List Int)))), Item.own v4 (x5 : (List (Bool × (Int × (List Int))))), Item.own v1 (x3 : (List Int))] := hC47.front 10 rfl
                        have hC49 : Ctx [] w0 _ [Item.box b4 [v14, (.int .i64 x10.2)], Item.own v14 (x10.1 : (List (Int × (List Int)))), Item.own v8 (x6.1 : (List (Int × (List Int)))), Item.box b2 [v8, (.int .i64 x6.2)], Item.box b1 [u2, (.int .i64 a2.2)], Item.own v12 (x20.2 : (List (Bool × (Int × (List Int))))), Item.own v11 (x19.2.1 : (List (Int × (List Int)))), Item.own v9 (x18.2 : (List Int)), Item.own v19 (x16 : (List (Bool × (Int × (List Int))))), Item.own v18 (x14.1 : (List (Int × (List Int)))), Item.own v15 (x12 : (List Int)), Item.box b3 [v11, (.int .i64 x8.2)], Item.own v7 (x4.1 : (List (Int × (List Int)))), Item.own v4 (x5 : (List (Bool × (Int × (List Int))))), Item.own v1 (x3 : (List Int))] := hC48.front 10 rfl
                        have hC50 : Ctx [] w0 _ [Item.box b4 [v14, (.int .i64 x10.2)], Item.own v14 (x10.1 : (List (Int × (List Int)))), Item.own v8 (x6.1 : (List (Int × (List Int)))), Item.box b2 [v8, (.int .i64 x6.2)], Item.box b1 [u2, (.int .i64 a2.2)]] := hC49.headN 5
                        refine nrm_sub (l' := [(0, u1), (2, u3), (4, (ptr b1 0)), (8, (ptr b2 0)), (12, (ptr b4 0)), (82, (.bool (!x22)))]) ⟨rfl, rfl, rfl, rfl, rfl, rfl, trivial⟩ ?_
                        exact ⟨(!x22), rfl, rfl, (Keep.of hB29).below, hC50⟩
                    · rintro _ w34 ⟨x21, rfl, rfl, hB28, hC37⟩
                      try dsimp only at hF
                      refine W_cond rfl (fun hc9 => ?_) (fun hc9 => ?_)
                      · replace hF := ite_t hF hc9
                        refine W_seq_reg ?_
                        refine WL_assign rfl rfl ?_
                        refine WL_nil ?_
                        refine W_ret ?_
                        refine nrm_ret ?_
                        have hq13 := Option.some.inj hF
                        subst hq13
                        refine fn_ret1 rfl rfl ?_
                        exact ⟨_, rfl, bool_res hC37 _⟩
                      · replace hF := ite_f hF hc9
                        refine W_skip ?_
                        refine nrm_normal ?_
                        refine W_seq_reg ?_
                        refine WL_assign rfl rfl ?_
                        refine WL_nil ?_
                        refine W_seq_reg ?_
                        refine WL_load_box_agg [v14, (.int .i64 x10.2)] hC37 0 rfl rfl rfl Try.isAgg73 Try.sizeOf73 rfl rfl ?_
                        refine WL_move rfl rfl ?_
                        obtain ⟨x23, hr23, hF⟩ := bind_some hF
                        have hC51 : Ctx [] w0 _ [Item.own v14 (x10.1 : (List (Int × (List Int)))), Item.box b4 [v14, (.int .i64 x10.2)], Item.own v8 (x6.1 : (List (Int × (List Int)))), Item.box b2 [v8, (.int .i64 x6.2)], Item.box b1 [u2, (.int .i64 a2.2)]] := hC37.front 1 rfl
                        obtain ⟨Fs4, hH4, hn17, hF4, hO4, hb17⟩ := Ctx.lend2 (As := [Item.box b4 [v14, (.int .i64 x10.2)], Item.own v8 (x6.1 : (List (Int × (List Int)))), Item.box b2 [v8, (.int .i64 x6.2)], Item.box b1 [u2, (.int .i64 a2.2)]]) [Item.own v14 (x10.1 : (List (Int × (List Int))))] hC51
                        refine WL_call Try.call50 rfl rfl (c_Q_markSource (x10.1, x10.2) v14 1 hH4 hn17 x23 hr23) ?_
                        rintro _ w36 ⟨rfl, hq14⟩
                        have hC52 : Ctx [] w0 w36 [Item.own v14 (x23.2.1 : (List (Int × (List Int)))), Item.box b4 [v14, (.int .i64 x10.2)], Item.own v8 (x6.1 : (List (Int × (List Int)))), Item.box b2 [v8, (.int .i64 x6.2)], Item.box b1 [u2, (.int .i64 a2.2)]] := hb17 _ _ hq14
                        refine WL_assign rfl rfl ?_
                        refine WL_nil ?_
                        refine W_seq_reg ?_
                        refine WL_assign rfl rfl ?_
                        refine WL_nil ?_
                        refine W_seq_reg ?_
                        refine WL_load_box_agg [v14, (.int .i64 x10.2)] hC52 1 rfl rfl rfl Try.isAgg73 Try.sizeOf73 rfl rfl ?_
                        refine WL_move rfl rfl ?_
                        obtain ⟨x24, hr24, hF⟩ := bind_some hF
                        refine WL_call Try.call52 rfl rfl (c_Q_heldSource (x23.2.1, x10.2) v14 ((hC52.ro 0 rfl).now (Keep.refl _ _)) 1 x24 hr24) ?_
                        intro _ w37 hv20
                        obtain ⟨rfl, hB30⟩ := res_int hv20
                        have hC53 := hC52.grow hB30
                        refine WL_assign rfl rfl ?_
                        refine WL_nil ?_
                        refine W_seq ?_
                        refine W_seq_reg ?_
                        refine WL_move rfl rfl ?_
                        refine WL_lss rfl rfl rfl ?_
                        refine WL_nil ?_
                        refine W_cond rfl (fun hc10 => ?_) (fun hc10 => ?_)
                        · replace hF := ite_t hF hc10
                          refine W_seq_reg ?_
                          refine WL_assign rfl rfl ?_
                          refine WL_nil ?_
                          refine W_ret ?_
                          refine nrm_ret ?_
                          have hq15 := Option.some.inj hF
                          subst hq15
                          refine fn_ret1 rfl rfl ?_
                          exact ⟨_, rfl, bool_res hC53 _⟩
                        · replace hF := ite_f hF hc10
                          refine W_skip ?_
                          refine nrm_normal ?_
                          refine W_seq ?_
                          refine W_seq_reg ?_
                          refine WL_move rfl rfl ?_
                          refine WL_move rfl rfl ?_
                          refine WL_neq rfl rfl rfl ?_
                          refine WL_nil ?_
                          refine W_cond rfl (fun hc11 => ?_) (fun hc11 => ?_)
                          · replace hF := ite_t hF hc11
                            refine W_seq_reg ?_
                            refine WL_assign rfl rfl ?_
                            refine WL_nil ?_
                            refine W_ret ?_
                            refine nrm_ret ?_
                            have hq16 := Option.some.inj hF
                            subst hq16
                            refine fn_ret1 rfl rfl ?_
                            exact ⟨_, rfl, bool_res hC53 _⟩
                          · replace hF := ite_f hF hc11
                            refine W_skip ?_
                            refine nrm_normal ?_
                            refine W_seq ?_
                            refine W_drawn 9 rfl hmix (fun w38 hB31 => ?_)
                            have hC54 := hC53.grow hB31
                            refine WA_take 0 rfl (by kernel_rfl) (by kernel_rfl) (by kernel_rfl) rfl (fl_move rfl) ?_
                            refine WL_move rfl rfl ?_
                            refine WL_nil ?_
                            refine WA_take 4 rfl (by kernel_rfl) (by kernel_rfl) (by kernel_rfl) rfl (fl_move rfl) ?_
                            refine WL_move rfl rfl ?_
                            refine WL_nil ?_
                            obtain ⟨x25, hr25, hF⟩ := bind_some hF
                            obtain ⟨x26, hr26, hF⟩ := bind_some hF
                            obtain ⟨x27, hr27, hF⟩ := bind_some hF
                            obtain ⟨x28, hr28, hF⟩ := bind_some hF
                            refine WA.sub (l' := [(0, u1), (2, u3), (4, (ptr b1 0)), (8, (ptr b2 0)), (12, (ptr b4 0)), (14, (.int .i64 x23.1)), (15, (.int .i64 x24)), (82, (.bool x21)), (83, (.agg #[v14, (.int .i64 x10.2)])), (84, (.int .i64 1)), (85, (.int .i64 x23.1)), (86, (.agg #[v14, (.int .i64 x10.2)])), (87, (.int .i64 1)), (88, (.int .i64 x24)), (89, (.int .i64 x24)), (90, (.bool (decide (x24 < 0)))), (91, (.int .i64 x24)), (92, (.int .i64 x23.1)), (93, (.bool (!decide (x24 = x23.1)))), (94, u1), (98, u3)]) ?_ ⟨rfl, rfl, rfl, rfl, rfl, rfl, rfl, rfl, rfl, rfl, rfl, rfl, rfl, rfl, rfl, rfl, rfl, rfl, rfl, rfl, rfl, trivial⟩
                            refine WA_postsE [⟨1, [], fun vs => PW.own x25, []⟩, ⟨2, [], fun vs => PW.val (.agg #[u2, (.int .i64 a2.2)]), []⟩, ⟨3, [], fun vs => PW.own x26, []⟩, ⟨5, [], fun vs => PW.own x27, []⟩, ⟨6, [], fun vs => PW.own x28, []⟩, ⟨7, [], fun vs => PW.box [(.slice none 0 0), (.int .i64 0)], []⟩] [[], [], [2], [], [1, 3, 5], []] 1 rfl (by kernel_rfl) (by kernel_rfl) rfl ?_ ?_
                            · refine StepsE_cons rfl ?_ ?_
                              · intro w44 hB37
                                refine DepsE_nil ?_
                                refine ⟨_, rfl, ?_⟩
                                refine WL_call Try.call15 rfl rfl (c_Q_toIntS a1 u1 (g1.now (hC54.keep.then hB37)) x25 hr25) ?_
                                rintro v20 w39 ⟨hB32, F13, hv21, hn18, hb18⟩
                                refine WL_nil ?_
                                exact FinE_own hB32 rfl rfl hv21 hn18 hb18 (Val.inh hv21)
                              refine StepsE_cons rfl ?_ ?_
                              · intro w44 hB37
                                refine DepsE_nil ?_
                                refine ⟨_, rfl, ?_⟩
                                refine WL_load_box_agg [u2, (.int .i64 a2.2)] (hC54.grow hB37) 4 rfl rfl rfl Try.isAgg65 Try.sizeOf65 rfl rfl ?_
                                refine WL_nil ?_
                                exact FinE_val (Below.refl _ _) rfl rfl ⟨rfl, rfl⟩
                              refine StepsE_cons rfl ?_ ?_
                              · intro w44 hB37
                                refine DepsE_cons rfl rfl rfl ?_
                                rintro _ _ ⟨rfl, rfl⟩ _
                                refine DepsE_nil ?_
                                refine ⟨_, rfl, ?_⟩
                                refine WL_call Try.call44 rfl rfl (c_Q_toSource (a2.1, a2.2) u2 (g2.now (hC54.keep.then hB37)) x26 hr26) ?_
                                rintro v21 w40 ⟨hB33, F14, hv22, hn19, hb19⟩
                                refine WL_nil ?_
                                exact FinE_own hB33 rfl rfl hv22 hn19 hb19 (Val.inh hv22)
                              refine StepsE_cons rfl ?_ ?_
                              · intro w44 hB37
                                refine DepsE_nil ?_
                                refine ⟨_, rfl, ?_⟩
                                refine WL_call Try.call55 rfl rfl (c_Q_toChangeS a3 u3 (g3.now (hC54.keep.then hB37)) x27 hr27) ?_
                                rintro v23 w41 ⟨hB34, F15, hv23, hn20, hb20⟩
                                refine WL_nil ?_
                                exact FinE_own hB34 rfl rfl hv23 hn20 hb20 (Val.inh hv23)
                              refine StepsE_cons rfl ?_ ?_
                              · intro w44 hB37
                                refine DepsE_cons rfl rfl rfl ?_
                                intro v20 F13 hv21 _
                                refine DepsE_cons rfl rfl rfl ?_
                                intro v21 F14 hv22 _
                                obtain ⟨v22, rfl, h4⟩ := ro_st73 (ro_of_own hv22)
                                refine DepsE_cons rfl rfl rfl ?_
                                intro v23 F15 hv23 _
                                refine DepsE_nil ?_
                                refine ⟨_, rfl, ?_⟩
                                refine WL_call Try.call56 rfl rfl (c_M_ApplyChanges x25 v20 (ro_of_own hv21) x26 v22 (h4.now (Keep.refl _ _)) x27 v23 (ro_of_own hv23) x28 hr28) ?_
                                rintro v24 w42 ⟨hB35, F16, hv24, hn21, hb21⟩
                                refine WL_nil ?_
                                exact FinE_own hB35 rfl rfl hv24 hn21 hb21 (Val.inh hv24)
                              refine StepsE_cons rfl ?_ ?_
                              · intro w44 hB37
                                refine DepsE_nil ?_
                                refine ⟨_, rfl, ?_⟩
                                refine WL_alloc (Ctx.start _) zero73 rfl rfl (fun b5 w43 hC55 hB36 => ?_)
                                refine WL_nil ?_
                                exact FinE_ctx hC55 rfl rfl (fun F h => ⟨b5, rfl, h⟩)
                              exact StepsE_nil
                            · intro w45 hB38
                              refine AllE_cons rfl rfl rfl ?_
                              intro v20 F13 hv21
                              refine AllE_cons rfl rfl rfl ?_
                              rintro _ _ ⟨rfl, rfl⟩
                              refine AllE_cons rfl rfl rfl ?_
                              intro v21 F14 hv22
                              refine AllE_cons rfl rfl rfl ?_
                              intro v23 F15 hv23
                              refine AllE_cons rfl rfl rfl ?_
                              intro v24 F16 hv24
                              refine AllE_cons rfl rfl rfl ?_
                              rintro _ F17 ⟨b5, rfl, hv25⟩
                              refine AllE_nil ?_
                              intro hn22 hb22
                              have hC56 := hC54.pushL hB38 (Bs := [Item.box b5 [(.slice none 0 0), (.int .i64 0)], Item.own v24 (x28 : ((List (Int × (List Int))) × Int)), Item.own v23 (x27 : (List (Bool × (Int × (List Int))))), Item.own v21 (x26 : ((List (Int × (List Int))) × Int)), Item.own v20 (x25 : (List Int))]) (Fs := [F17, F16, F15, F14, F13]) ⟨F17, _, rfl, hv25, F16, _, rfl, hv24, F15, _, rfl, hv23, F14, _, rfl, hv22, F13, _, rfl, hv21, rfl⟩ (by simpa using hn22) (fun b h => (hb22 b (by simpa using h)).1)
                              have hC57 : Ctx [] w0 _ [Item.own v21 (x26 : ((List (Int × (List Int))) × Int)), Item.box b5 [(.slice none 0 0), (.int .i64 0)], Item.own v24 (x28 : ((List (Int × (List Int))) × Int)), Item.own v23 (x27 : (List (Bool × (Int × (List Int))))), Item.own v20 (x25 : (List Int)), Item.own v14 (x23.2.1 : (List (Int × (List Int)))), Item.box b4 [v14, (.int .i64 x10.2)], Item.own v8 (x6.1 : (List (Int × (List Int)))), Item.box b2 [v8, (.int .i64 x6.2)], Item.box b1 [u2, (.int .i64 a2.2)]] := hC56.front 3 rfl
                              obtain ⟨v26, rfl, hC58⟩ := st73_own hC57
                              have hC59 : Ctx [] w0 _ [Item.own v24 (x28 : ((List (Int × (List Int))) × Int)), Item.own v26 (x26.1 : (List (Int × (List Int)))), Item.box b5 [(.slice none 0 0), (.int .i64 0)], Item.own v23 (x27 : (List (Bool × (Int × (List Int))))), Item.own v20 (x25 : (List Int)), Item.own v14 (x23.2.1 : (List (Int × (List Int)))), Item.box b4 [v14, (.int .i64 x10.2)], Item.own v8 (x6.1 : (List (Int × (List Int)))), Item.box b2 [v8, (.int .i64 x6.2)], Item.box b1 [u2, (.int .i64 a2.2)]] := hC58.front 2 rfl
                              obtain ⟨v27, rfl, hC60⟩ := st73_own hC59
                              refine WA_one 8 (by kernel_rfl) rfl ?_
                              refine WL_store_box_agg (cs' := [v27, (.int .i64 x28.2)]) (new := [v27, (.int .i64 x28.2)]) hC60 2 rfl rfl (by intro v hv; simp only [List.mem_cons, List.not_mem_nil, or_false] at hv; rcases hv with rfl | rfl; exact (ro_one (hC60.ro 0 rfl)); exact rfl) rfl Try.sizeOf73 rfl rfl (fun w46 hC61 => ?_)
                              try dsimp only [List.set] at hC61
                              refine WL_nil ?_
                              refine WA_done (by kernel_rfl) ?_
                              refine nrm_normal ?_
                              refine W_seq ?_
                              refine W_seq_reg ?_
                              refine WL_load_box_agg [v27, (.int .i64 x28.2)] hC61 2 rfl rfl rfl Try.isAgg73 Try.sizeOf73 rfl rfl ?_
                              refine WL_load_box_agg [v8, (.int .i64 x6.2)] hC61 8 rfl rfl rfl Try.isAgg73 Try.sizeOf73 rfl rfl ?_
                              obtain ⟨x29, hr29, hF⟩ := bind_some hF
                              refine WL_call Try.call47 rfl rfl (c_Q_eqSource (x28.1, x28.2) v27 ((hC61.ro 0 rfl).now (Keep.refl _ _)) (x6.1, x6.2) v8 ((hC61.ro 7 rfl).now (Keep.refl _ _)) x29 hr29) ?_
                              intro _ w47 hv26
                              obtain ⟨rfl, hB39⟩ := res_bool hv26
                              have hC62 := hC61.grow hB39
                              refine WL_not rfl rfl ?_
                              refine WL_nil ?_
                              refine W_cond rfl (fun hc12 => ?_) (fun hc12 => ?_)
                              · replace hF := ite_t hF hc12
                                refine W_seq_reg ?_
                                refine WL_assign rfl rfl ?_
                                refine WL_nil ?_
                                refine W_ret ?_
                                refine nrm_ret ?_
                                have hq17 := Option.some.inj hF
                                subst hq17
                                refine fn_ret1 rfl rfl ?_
                                exact ⟨_, rfl, bool_res hC62 _⟩
                              · replace hF := ite_f hF hc12
                                refine W_skip ?_
                                refine nrm_normal ?_
                                refine W_seq_reg ?_
                                refine WL_assign rfl rfl ?_
                                refine WL_nil ?_
                                refine W_seq_reg ?_
                                refine WL_load_box_agg [v14, (.int .i64 x10.2)] hC62 6 rfl rfl rfl Try.isAgg73 Try.sizeOf73 rfl rfl ?_
                                refine WL_move rfl rfl ?_
                                obtain ⟨x30, hr30, hF⟩ := bind_some hF
                                refine WL_call Try.call52 rfl rfl (c_Q_heldSource (x23.2.1, x10.2) v14 ((hC62.ro 5 rfl).now (Keep.refl _ _)) 1 x30 hr30) ?_
                                intro _ w48 hv27
                                obtain ⟨rfl, hB40⟩ := res_int hv27
                                have hC63 := hC62.grow hB40
                                refine WL_assign rfl rfl ?_
                                refine WL_nil ?_
                                refine W_seq ?_
                                refine W_seq_reg ?_
                                refine WL_move rfl rfl ?_
                                refine WL_lss rfl rfl rfl ?_
                                refine WL_nil ?_
                                refine W_cond rfl (fun hc13 => ?_) (fun hc13 => ?_)
                                · replace hF := ite_t hF hc13
                                  refine W_seq_reg ?_
                                  refine WL_assign rfl rfl ?_
                                  refine WL_nil ?_
                                  refine W_ret ?_
                                  refine nrm_ret ?_
                                  have hq18 := Option.some.inj hF
                                  subst hq18
                                  refine fn_ret1 rfl rfl ?_
                                  exact ⟨_, rfl, bool_res hC63 _⟩
                                · replace hF := ite_f hF hc13
                                  refine W_skip ?_
                                  refine nrm_normal ?_
                                  refine W_seq ?_
                                  refine W_seq_reg ?_
                                  refine WL_move rfl rfl ?_
                                  refine WL_move rfl rfl ?_
                                  refine WL_neq rfl rfl rfl ?_
                                  refine WL_nil ?_
                                  refine W_cond rfl (fun hc14 => ?_) (fun hc14 => ?_)
                                  · replace hF := ite_t hF hc14
                                    refine W_seq_reg ?_
                                    refine WL_assign rfl rfl ?_
                                    refine WL_nil ?_
                                    refine W_ret ?_
                                    refine nrm_ret ?_
                                    have hq19 := Option.some.inj hF
                                    subst hq19
                                    refine fn_ret1 rfl rfl ?_
                                    exact ⟨_, rfl, bool_res hC63 _⟩
                                  · replace hF := ite_f hF hc14
                                    refine W_skip ?_
                                    refine nrm_normal ?_
                                    refine W_seq_reg ?_
                                    refine WL_assign rfl rfl ?_
                                    refine WL_nil ?_
                                    refine W_ret ?_
                                    have hq20 := Option.some.inj hF
                                    subst hq20
                                    refine fn_ret1 rfl rfl ?_
                                    exact ⟨_, rfl, bool_res hC63 _⟩

end Go.Gx.Px
