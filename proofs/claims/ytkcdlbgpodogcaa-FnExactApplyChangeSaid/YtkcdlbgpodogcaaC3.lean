/- The contracts of the Go functions against the pure functions, printed by program. Conditions: each says them. -/
import Derived.Test.YtkcdlbgpodogcaaC2
set_option linter.unusedVariables false
set_option linter.unusedSimpArgs false
set_option maxRecDepth 100000
set_option maxHeartbeats 4000000
namespace Go.Gx.Px
open Go.Proofs Go.RowKit

theorem c_Q_FnExactApplyChange {w0 : World} (a1 : (List Int)) (u1 : Value) (g1 : RO [] w0 u1 a1) (a2 : ((List (Int × (List Int))) × Int)) (u2 : Value) (g2 : RO [] w0 u2 a2.1) (a3 : (Bool × (Int × (List Int)))) (u3 : Value) (g3 : RO [] w0 u3 a3.2.2) (rr : Bool) (hF : Q.FnExactApplyChange a1 a2 a3 = some rr) :
    Calls Try.prog 9 [u1, (.agg #[u2, (.int .i64 a2.2)]), (.agg #[(.bool a3.1), (.int .i64 a3.2.1), u3])].toArray w0 fun e w' => ∃ v, e = .returned v ∧ Res w0 rr v w' := by
  refine calls_of_W Try.func9 rfl rfl ?_
  have hC0 := Ctx.start w0
  unfold Q.FnExactApplyChange at hF
  refine W_seq_reg ?_
  refine WL_box (cs := [u2, (.int .i64 a2.2)]) hC0 rfl rfl rfl (fun b1 w1 hC1 hB1 => ?_)
  refine WL_box (cs := [(.bool a3.1), (.int .i64 a3.2.1), u3]) hC1 rfl rfl rfl (fun b2 w2 hC2 hB2 => ?_)
  refine WL_assign rfl rfl ?_
  refine WL_nil ?_
  refine W_seq ?_
  refine W_seq_reg ?_
  refine WL_move rfl rfl ?_
  refine WL_len Try.underlying22 g1 rfl rfl ?_
  refine WL_gtr rfl rfl rfl ?_
  refine WL_nil ?_
  refine W_cond rfl (fun hc1 => ?_) (fun hc1 => ?_)
  · replace hF := ite_t hF hc1
    refine W_seq_reg ?_
    refine WL_assign rfl rfl ?_
    refine WL_nil ?_
    refine W_ret ?_
    refine nrm_ret ?_
    have hq1 := Option.some.inj hF
    subst hq1
    refine fn_ret1 rfl rfl ?_
    exact ⟨_, rfl, bool_res hC2 _⟩
  · replace hF := ite_f hF hc1
    refine W_skip ?_
    refine nrm_normal ?_
    refine W_seq_reg ?_
    refine WL_assign rfl rfl ?_
    refine WL_nil ?_
    refine W_seq_reg ?_
    refine WL_load_box_agg [u2, (.int .i64 a2.2)] hC2 1 rfl rfl rfl Try.isAgg65 Try.sizeOf65 rfl rfl ?_
    refine WL_move rfl rfl ?_
    obtain ⟨x1, hr1, hF⟩ := bind_some hF
    refine WL_call Try.call41 rfl rfl (c_Q_szSource (a2.1, a2.2) u2 (g2.now hC2.keep) 1048576 x1 hr1) ?_
    intro _ w3 hv1
    obtain ⟨rfl, hB3⟩ := res_int hv1
    have hC3 := hC2.grow hB3
    refine WL_assign rfl rfl ?_
    refine WL_nil ?_
    refine W_seq ?_
    refine W_seq_reg ?_
    refine WL_move rfl rfl ?_
    refine WL_lss rfl rfl rfl ?_
    refine WL_nil ?_
    refine W_cond rfl (fun hc2 => ?_) (fun hc2 => ?_)
    · replace hF := ite_t hF hc2
      refine W_seq_reg ?_
      refine WL_assign rfl rfl ?_
      refine WL_nil ?_
      refine W_ret ?_
      refine nrm_ret ?_
      have hq2 := Option.some.inj hF
      subst hq2
      refine fn_ret1 rfl rfl ?_
      exact ⟨_, rfl, bool_res hC3 _⟩
    · replace hF := ite_f hF hc2
      refine W_skip ?_
      refine nrm_normal ?_
      refine W_seq_reg ?_
      refine WL_load_box_agg [(.bool a3.1), (.int .i64 a3.2.1), u3] hC3 0 rfl rfl rfl Try.isAgg69 Try.sizeOf69 rfl rfl ?_
      refine WL_move rfl rfl ?_
      obtain ⟨x2, hr2, hF⟩ := bind_some hF
      refine WL_call Try.call42 rfl rfl (c_Q_szChange (a3.1, (a3.2.1, a3.2.2)) u3 (g3.now hC3.keep) x1 x2 hr2) ?_
      intro _ w4 hv2
      obtain ⟨rfl, hB4⟩ := res_int hv2
      have hC4 := hC3.grow hB4
      refine WL_assign rfl rfl ?_
      refine WL_nil ?_
      refine W_seq ?_
      refine W_seq_reg ?_
      refine WL_move rfl rfl ?_
      refine WL_lss rfl rfl rfl ?_
      refine WL_nil ?_
      refine W_cond rfl (fun hc3 => ?_) (fun hc3 => ?_)
      · replace hF := ite_t hF hc3
        refine W_seq_reg ?_
        refine WL_assign rfl rfl ?_
        refine WL_nil ?_
        refine W_ret ?_
        refine nrm_ret ?_
        have hq3 := Option.some.inj hF
        subst hq3
        refine fn_ret1 rfl rfl ?_
        exact ⟨_, rfl, bool_res hC4 _⟩
      · replace hF := ite_f hF hc3
        refine W_skip ?_
        refine nrm_normal ?_
        obtain ⟨r1, hr3, hF⟩ := bind_some hF
        refine W_cut (fun l w => ∃ x3 : Bool, ∃ b3 : Nat, ∃ v1 : Value, ∃ x4 : (List (Int × (List Int))), ∃ x5 : Int, (x3, x4, x5) = r1 ∧ l = [(0, u1), (4, (ptr b1 0)), (5, (ptr b2 0)), (8, (ptr b3 0)), (9, (.bool x3))] ∧ Ctx [] w0 w [Item.box b3 [v1, (.int .i64 x5)], Item.own v1 (x4 : (List (Int × (List Int)))), Item.box b2 [(.bool a3.1), (.int .i64 a3.2.1), u3], Item.box b1 [u2, (.int .i64 a2.2)]]) ?_ ?_
        · refine W_drawn 13 rfl hmix (fun w6 hB6 => ?_)
          have hC6 := hC4.grow hB6
          refine WA_take 0 rfl (by kernel_rfl) (by kernel_rfl) (by kernel_rfl) rfl (fl_move rfl) ?_
          refine WL_move rfl rfl ?_
          refine WL_nil ?_
          obtain ⟨x6, hr4, hr3⟩ := bind_some hr3
          obtain ⟨x7, hr5, hr3⟩ := bind_some hr3
          obtain ⟨x8, hr6, hr3⟩ := bind_some hr3
          obtain ⟨x9, hr7, hr3⟩ := bind_some hr3
          refine WA.sub (l' := [(0, u1), (1, (.agg #[u2, (.int .i64 a2.2)])), (2, (.agg #[(.bool a3.1), (.int .i64 a3.2.1), u3])), (4, (ptr b1 0)), (5, (ptr b2 0)), (6, (.bool false)), (7, (.int .i64 x2)), (20, u1), (21, (.int .i64 (List.length a1 : Int))), (22, (.bool (decide (1048576 < (List.length a1 : Int))))), (23, (.agg #[u2, (.int .i64 a2.2)])), (24, (.int .i64 1048576)), (25, (.int .i64 x1)), (26, (.int .i64 x1)), (27, (.bool (decide (x1 < 0)))), (28, (.agg #[(.bool a3.1), (.int .i64 a3.2.1), u3])), (29, (.int .i64 x1)), (30, (.int .i64 x2)), (31, (.int .i64 x2)), (32, (.bool (decide (x2 < 0)))), (34, u1)]) ?_ ⟨rfl, rfl, rfl, rfl, rfl, rfl, rfl, rfl, rfl, rfl, rfl, rfl, rfl, rfl, rfl, rfl, rfl, rfl, rfl, rfl, rfl, trivial⟩
          refine WA_postsO [⟨1, [], fun vs => PW.own x6, []⟩, ⟨2, [], fun vs => PW.val (.agg #[u2, (.int .i64 a2.2)]), []⟩, ⟨3, [], fun vs => PW.own x7, []⟩, ⟨4, [], fun vs => PW.val (.agg #[(.bool a3.1), (.int .i64 a3.2.1), u3]), []⟩, ⟨5, [], fun vs => PW.own x8, []⟩, ⟨6, [], fun vs => PW.own2 (x9.1 : ((List (Int × (List Int))) × Int)) (x9.2 : Bool), []⟩, ⟨7, [40], fun vs => PW.val (vs.getD 0 undef), []⟩, ⟨8, [33], fun vs => PW.comp (vs.getD 0 undef) 0, []⟩, ⟨9, [33], fun vs => PW.comp (vs.getD 0 undef) 1, []⟩, ⟨10, [], fun vs => PW.box [(.slice none 0 0), (.int .i64 0)], []⟩] [[], [], [2], [], [4], [1, 3, 5], [6], [6, 7], [6, 7], []] [9] 2 rfl (by kernel_rfl) (by kernel_rfl) ?_ ⟨?_, ?_, trivial⟩
          · refine StepsE_cons rfl ?_ ?_
            · intro w12 hB12
              refine DepsE_nil ?_
              refine ⟨_, rfl, ?_⟩
              refine WL_call Try.call15 rfl rfl (c_Q_toIntS a1 u1 (g1.now (hC6.keep.then hB12)) x6 hr4) ?_
              rintro v2 w7 ⟨hB7, F1, hv3, hn1, hb1⟩
              refine WL_nil ?_
              exact FinE_own hB7 rfl rfl hv3 hn1 hb1 (Val.inh hv3)
            refine StepsE_cons rfl ?_ ?_
            · intro w12 hB12
              refine DepsE_nil ?_
              refine ⟨_, rfl, ?_⟩
              refine WL_load_box_agg [u2, (.int .i64 a2.2)] (hC6.grow hB12) 1 rfl rfl rfl Try.isAgg65 Try.sizeOf65 rfl rfl ?_
              refine WL_nil ?_
              exact FinE_val (Below.refl _ _) rfl rfl ⟨rfl, rfl⟩
            refine StepsE_cons rfl ?_ ?_
            · intro w12 hB12
              refine DepsE_cons rfl rfl rfl ?_
              rintro _ _ ⟨rfl, rfl⟩ _
              refine DepsE_nil ?_
              refine ⟨_, rfl, ?_⟩
              refine WL_call Try.call44 rfl rfl (c_Q_toSource (a2.1, a2.2) u2 (g2.now (hC6.keep.then hB12)) x7 hr5) ?_
              rintro v3 w8 ⟨hB8, F2, hv4, hn2, hb2⟩
              refine WL_nil ?_
              exact FinE_own hB8 rfl rfl hv4 hn2 hb2 (Val.inh hv4)
            refine StepsE_cons rfl ?_ ?_
            · intro w12 hB12
              refine DepsE_nil ?_
              refine ⟨_, rfl, ?_⟩
              refine WL_load_box_agg [(.bool a3.1), (.int .i64 a3.2.1), u3] (hC6.grow hB12) 0 rfl rfl rfl Try.isAgg69 Try.sizeOf69 rfl rfl ?_
              refine WL_nil ?_
              exact FinE_val (Below.refl _ _) rfl rfl ⟨rfl, rfl⟩
            refine StepsE_cons rfl ?_ ?_
            · intro w12 hB12
              refine DepsE_cons rfl rfl rfl ?_
              rintro _ _ ⟨rfl, rfl⟩ _
              refine DepsE_nil ?_
              refine ⟨_, rfl, ?_⟩
              refine WL_call Try.call45 rfl rfl (c_Q_toChange (a3.1, (a3.2.1, a3.2.2)) u3 (g3.now (hC6.keep.then hB12)) x8 hr6) ?_
              rintro v5 w9 ⟨hB9, F3, hv5, hn3, hb3⟩
              refine WL_nil ?_
              exact FinE_own hB9 rfl rfl hv5 hn3 hb3 (Val.inh hv5)
            refine StepsE_cons rfl ?_ ?_
            · intro w12 hB12
              refine DepsE_cons rfl rfl rfl ?_
              intro v2 F1 hv3 _
              refine DepsE_cons rfl rfl rfl ?_
              intro v3 F2 hv4 _
              obtain ⟨v4, rfl, h1⟩ := ro_st73 (ro_of_own hv4)
              refine DepsE_cons rfl rfl rfl ?_
              intro v5 F3 hv5 _
              obtain ⟨v6, rfl, h2⟩ := ro_st79 (ro_of_own hv5)
              refine DepsE_nil ?_
              refine ⟨_, rfl, ?_⟩
              refine WL_call Try.call43 rfl rfl (c_S_ApplyChange x6 v2 (ro_of_own hv3) x7 v4 (h1.now (Keep.refl _ _)) x8 v6 (h2.now (Keep.refl _ _)) x9 hr7) ?_
              rintro _ w10 ⟨hB10, v7, v8, F4, F5, rfl, hv6, hv7, hn4, hb4⟩
              refine WL_nil ?_
              exact FinE_own (F := F4 ++ F5) hB10 rfl rfl ⟨_, _, _, _, rfl, rfl, hv6, hv7⟩ (by simpa using hn4) (fun b h => hb4 b (by simpa using h)) (fun b h => by simp only [List.mem_append] at h; rcases h with h | h <;> first | exact Val.inh hv6 b h | exact Val.inh hv7 b h)
            refine StepsE_cons rfl ?_ ?_
            · intro w12 hB12
              refine DepsE_cons rfl rfl rfl ?_
              rintro _ _ ⟨v7, v8, F4, F5, rfl, rfl, hv6, hv7⟩ _
              obtain ⟨rfl, rfl⟩ := val_bool hv7
              obtain ⟨v9, rfl, h3⟩ := ro_st73 (ro_of_own hv6)
              refine DepsE_nil ?_
              refine ⟨_, rfl, ?_⟩
              refine WL_move rfl rfl ?_
              refine WL_nil ?_
              exact FinE_val (Below.refl _ _) rfl rfl ⟨rfl, rfl⟩
            refine StepsE_cons rfl ?_ ?_
            · intro w12 hB12
              refine DepsE_cons rfl rfl rfl ?_
              rintro _ _ ⟨v7, v8, F4, F5, rfl, rfl, hv6, hv7⟩ _
              obtain ⟨rfl, rfl⟩ := val_bool hv7
              obtain ⟨v9, rfl, h3⟩ := ro_st73 (ro_of_own hv6)
              refine DepsE_cons rfl rfl rfl ?_
              rintro _ _ ⟨rfl, rfl⟩ _
              refine DepsE_nil ?_
              refine ⟨_, rfl, ?_⟩
              refine WL_extract rfl rfl rfl ?_
              refine WL_nil ?_
              exact FinE_val (Below.refl _ _) rfl rfl ⟨⟨_, rfl, rfl⟩, rfl⟩
            refine StepsE_cons rfl ?_ ?_
            · intro w12 hB12
              refine DepsE_cons rfl rfl rfl ?_
              rintro _ _ ⟨v7, v8, F4, F5, rfl, rfl, hv6, hv7⟩ _
              obtain ⟨rfl, rfl⟩ := val_bool hv7
              obtain ⟨v9, rfl, h3⟩ := ro_st73 (ro_of_own hv6)
              refine DepsE_cons rfl rfl rfl ?_
              rintro _ _ ⟨rfl, rfl⟩ _
              refine DepsE_nil ?_
              refine ⟨_, rfl, ?_⟩
              refine WL_extract rfl rfl rfl ?_
              refine WL_nil ?_
              exact FinE_val (Below.refl _ _) rfl rfl ⟨⟨_, rfl, rfl⟩, rfl⟩
            refine StepsE_cons rfl ?_ ?_
            · intro w12 hB12
              refine DepsE_nil ?_
              refine ⟨_, rfl, ?_⟩
              refine WL_alloc (Ctx.start _) zero73 rfl rfl (fun b4 w11 hC7 hB11 => ?_)
              refine WL_nil ?_
              exact FinE_ctx hC7 rfl rfl (fun F h => ⟨b4, rfl, h⟩)
            exact StepsE_nil
          · intro g' hg'
            obtain rfl : g' = 2 := hg'
            intro w13 hB13
            refine AllE_cons rfl rfl rfl ?_
            intro v2 F1 hv3
            refine AllE_cons rfl rfl rfl ?_
            rintro _ _ ⟨rfl, rfl⟩
            refine AllE_cons rfl rfl rfl ?_
            intro v3 F2 hv4
            refine AllE_cons rfl rfl rfl ?_
            rintro _ _ ⟨rfl, rfl⟩
            refine AllE_cons rfl rfl rfl ?_
            intro v5 F3 hv5
            refine AllE_cons rfl rfl rfl ?_
            rintro _ _ ⟨v7, v8, F4, F5, rfl, rfl, hv6, hv7⟩
            obtain ⟨rfl, rfl⟩ := val_bool hv7
            refine AllE_cons rfl rfl rfl ?_
            rintro _ _ ⟨rfl, rfl⟩
            refine AllE_cons rfl rfl rfl ?_
            rintro _ _ ⟨⟨_, hx1, hx2⟩, rfl⟩
            obtain rfl := Value.tuple.inj hx1
            obtain rfl := Option.some.inj (show (some v7 : Option Value) = some _ from hx2)
            refine AllE_cons rfl rfl rfl ?_
            rintro _ _ ⟨⟨_, hx3, hx4⟩, rfl⟩
            obtain rfl := Value.tuple.inj hx3
            obtain rfl := Option.some.inj (show (some (.bool x9.2) : Option Value) = some _ from hx4)
            refine AllE_cons rfl rfl rfl ?_
            rintro _ F6 ⟨b4, rfl, hv8⟩
            refine AllE_nil ?_
            intro hn5 hb5
            have hC8 := hC6.pushL hB13 (Bs := [Item.box b4 [(.slice none 0 0), (.int .i64 0)], Item.own v7 (x9.1 : ((List (Int × (List Int))) × Int)), Item.own v5 (x8 : (Bool × (Int × (List Int)))), Item.own v3 (x7 : ((List (Int × (List Int))) × Int)), Item.own v2 (x6 : (List Int))]) (Fs := [F6, F4, F3, F2, F1]) ⟨F6, _, rfl, hv8, F4, _, rfl, hv6, F3, _, rfl, hv5, F2, _, rfl, hv4, F1, _, rfl, hv3, rfl⟩ (by simpa using hn5) (fun b h => (hb5 b (by simpa using h)).1)
            have hC9 : Ctx [] w0 _ [Item.own v3 (x7 : ((List (Int × (List Int))) × Int)), Item.box b4 [(.slice none 0 0), (.int .i64 0)], Item.own v7 (x9.1 : ((List (Int × (List Int))) × Int)), Item.own v5 (x8 : (Bool × (Int × (List Int)))), Item.own v2 (x6 : (List Int)), Item.box b2 [(.bool a3.1), (.int .i64 a3.2.1), u3], Item.box b1 [u2, (.int .i64 a2.2)]] := hC8.front 3 rfl
            obtain ⟨v10, rfl, hC10⟩ := st73_own hC9
            have hC11 : Ctx [] w0 _ [Item.own v5 (x8 : (Bool × (Int × (List Int)))), Item.own v10 (x7.1 : (List (Int × (List Int)))), Item.box b4 [(.slice none 0 0), (.int .i64 0)], Item.own v7 (x9.1 : ((List (Int × (List Int))) × Int)), Item.own v2 (x6 : (List Int)), Item.box b2 [(.bool a3.1), (.int .i64 a3.2.1), u3], Item.box b1 [u2, (.int .i64 a2.2)]] := hC10.front 3 rfl
            obtain ⟨v11, rfl, hC12⟩ := st79_own hC11
            have hC13 : Ctx [] w0 _ [Item.own v7 (x9.1 : ((List (Int × (List Int))) × Int)), Item.own v11 (x8.2.2 : (List Int)), Item.own v10 (x7.1 : (List (Int × (List Int)))), Item.box b4 [(.slice none 0 0), (.int .i64 0)], Item.own v2 (x6 : (List Int)), Item.box b2 [(.bool a3.1), (.int .i64 a3.2.1), u3], Item.box b1 [u2, (.int .i64 a2.2)]] := hC12.front 3 rfl
            obtain ⟨v12, rfl, hC14⟩ := st73_own hC13
            refine WA_one 11 (by kernel_rfl) rfl ?_
            refine WL_store_box_agg (cs' := [v12, (.int .i64 x9.1.2)]) (new := [v12, (.int .i64 x9.1.2)]) hC14 3 rfl rfl (by intro v hv; simp only [List.mem_cons, List.not_mem_nil, or_false] at hv; rcases hv with rfl | rfl; exact (ro_one (hC14.ro 0 rfl)); exact rfl) rfl Try.sizeOf73 rfl rfl (fun w14 hC15 => ?_)
            try dsimp only [List.set] at hC15
            refine WL_nil ?_
            refine WA_take 12 rfl (by kernel_rfl) (by kernel_rfl) (by kernel_rfl) rfl (fl_assign rfl) ?_
            refine WL_assign rfl rfl ?_
            refine WL_nil ?_
            refine WA_done (by kernel_rfl) ?_
            have hq4 := Option.some.inj hr3
            subst hq4
            have hC16 : Ctx [] w0 _ [Item.box b1 [u2, (.int .i64 a2.2)], Item.own v12 (x9.1.1 : (List (Int × (List Int)))), Item.own v11 (x8.2.2 : (List Int)), Item.own v10 (x7.1 : (List (Int × (List Int)))), Item.box b4 [v12, (.int .i64 x9.1.2)], Item.own v2 (x6 : (List Int)), Item.box b2 [(.bool a3.1), (.int .i64 a3.2.1), u3]] := hC15.front 6 rfl
            have hC17 : Ctx [] w0 _ [Item.box b2 [(.bool a3.1), (.int .i64 a3.2.1), u3], Item.box b1 [u2, (.int .i64 a2.2)], Item.own v12 (x9.1.1 : (List (Int × (List Int)))), Item.own v11 (x8.2.2 : (List Int)), Item.own v10 (x7.1 : (List (Int × (List Int)))), Item.box b4 [v12, (.int .i64 x9.1.2)], Item.own v2 (x6 : (List Int))] := hC16.front 6 rfl
            have hC18 : Ctx [] w0 _ [Item.own v12 (x9.1.1 : (List (Int × (List Int)))), Item.box b2 [(.bool a3.1), (.int .i64 a3.2.1), u3], Item.box b1 [u2, (.int .i64 a2.2)], Item.own v11 (x8.2.2 : (List Int)), Item.own v10 (x7.1 : (List (Int × (List Int)))), Item.box b4 [v12, (.int .i64 x9.1.2)], Item.own v2 (x6 : (List Int))] := hC17.front 2 rfl
            have hC19 : Ctx [] w0 _ [Item.box b4 [v12, (.int .i64 x9.1.2)], Item.own v12 (x9.1.1 : (List (Int × (List Int)))), Item.box b2 [(.bool a3.1), (.int .i64 a3.2.1), u3], Item.box b1 [u2, (.int .i64 a2.2)], Item.own v11 (x8.2.2 : (List Int)), Item.own v10 (x7.1 : (List (Int × (List Int)))), Item.own v2 (x6 : (List Int))] := hC18.front 5 rfl
            have hC20 : Ctx [] w0 _ [Item.box b4 [v12, (.int .i64 x9.1.2)], Item.own v12 (x9.1.1 : (List (Int × (List Int)))), Item.box b2 [(.bool a3.1), (.int .i64 a3.2.1), u3], Item.box b1 [u2, (.int .i64 a2.2)]] := hC19.headN 4
            refine nrm_sub (l' := [(0, u1), (4, (ptr b1 0)), (5, (ptr b2 0)), (8, (ptr b4 0)), (9, (.bool x9.2))]) ⟨rfl, rfl, rfl, rfl, rfl, trivial⟩ ?_
            exact ⟨x9.2, b4, v12, x9.1.1, x9.1.2, rfl, rfl, hC20⟩
          · intro g' hg'
            obtain rfl : g' = 3 := hg'
            intro w13 hB13
            refine AllE_cons rfl rfl rfl ?_
            intro v2 F1 hv3
            refine AllE_cons rfl rfl rfl ?_
            rintro _ _ ⟨rfl, rfl⟩
            refine AllE_cons rfl rfl rfl ?_
            intro v3 F2 hv4
            refine AllE_cons rfl rfl rfl ?_
            rintro _ _ ⟨rfl, rfl⟩
            refine AllE_cons rfl rfl rfl ?_
            intro v5 F3 hv5
            refine AllE_cons rfl rfl rfl ?_
            rintro _ _ ⟨v7, v8, F4, F5, rfl, rfl, hv6, hv7⟩
            obtain ⟨rfl, rfl⟩ := val_bool hv7
            refine AllE_cons rfl rfl rfl ?_
            rintro _ _ ⟨rfl, rfl⟩
            refine AllE_cons rfl rfl rfl ?_
            rintro _ _ ⟨⟨_, hx1, hx2⟩, rfl⟩
            obtain rfl := Value.tuple.inj hx1
            obtain rfl := Option.some.inj (show (some v7 : Option Value) = some _ from hx2)
            refine AllE_cons rfl rfl rfl ?_
            rintro _ F6 ⟨b4, rfl, hv8⟩
            refine AllE_nil ?_
            intro hn5 hb5
            have hC8 := hC6.pushL hB13 (Bs := [Item.box b4 [(.slice none 0 0), (.int .i64 0)], Item.own v7 (x9.1 : ((List (Int × (List Int))) × Int)), Item.own v5 (x8 : (Bool × (Int × (List Int)))), Item.own v3 (x7 : ((List (Int × (List Int))) × Int)), Item.own v2 (x6 : (List Int))]) (Fs := [F6, F4, F3, F2, F1]) ⟨F6, _, rfl, hv8, F4, _, rfl, hv6, F3, _, rfl, hv5, F2, _, rfl, hv4, F1, _, rfl, hv3, rfl⟩ (by simpa using hn5) (fun b h => (hb5 b (by simpa using h)).1)
            have hC9 : Ctx [] w0 _ [Item.own v3 (x7 : ((List (Int × (List Int))) × Int)), Item.box b4 [(.slice none 0 0), (.int .i64 0)], Item.own v7 (x9.1 : ((List (Int × (List Int))) × Int)), Item.own v5 (x8 : (Bool × (Int × (List Int)))), Item.own v2 (x6 : (List Int)), Item.box b2 [(.bool a3.1), (.int .i64 a3.2.1), u3], Item.box b1 [u2, (.int .i64 a2.2)]] := hC8.front 3 rfl
            obtain ⟨v10, rfl, hC10⟩ := st73_own hC9
            have hC11 : Ctx [] w0 _ [Item.own v5 (x8 : (Bool × (Int × (List Int)))), Item.own v10 (x7.1 : (List (Int × (List Int)))), Item.box b4 [(.slice none 0 0), (.int .i64 0)], Item.own v7 (x9.1 : ((List (Int × (List Int))) × Int)), Item.own v2 (x6 : (List Int)), Item.box b2 [(.bool a3.1), (.int .i64 a3.2.1), u3], Item.box b1 [u2, (.int .i64 a2.2)]] := hC10.front 3 rfl
            obtain ⟨v11, rfl, hC12⟩ := st79_own hC11
            have hC13 : Ctx [] w0 _ [Item.own v7 (x9.1 : ((List (Int × (List Int))) × Int)), Item.own v11 (x8.2.2 : (List Int)), Item.own v10 (x7.1 : (List (Int × (List Int)))), Item.box b4 [(.slice none 0 0), (.int .i64 0)], Item.own v2 (x6 : (List Int)), Item.box b2 [(.bool a3.1), (.int .i64 a3.2.1), u3], Item.box b1 [u2, (.int .i64 a2.2)]] := hC12.front 3 rfl
            obtain ⟨v12, rfl, hC14⟩ := st73_own hC13
            refine WA_take 9 rfl (by kernel_rfl) (by kernel_rfl) (by kernel_rfl) rfl (fl_extract rfl rfl) ?_
            refine WL_extract rfl rfl rfl ?_
            refine WL_nil ?_
            refine WA_one 11 (by kernel_rfl) rfl ?_
            refine WL_store_box_agg (cs' := [v12, (.int .i64 x9.1.2)]) (new := [v12, (.int .i64 x9.1.2)]) hC14 3 rfl rfl (by intro v hv; simp only [List.mem_cons, List.not_mem_nil, or_false] at hv; rcases hv with rfl | rfl; exact (ro_one (hC14.ro 0 rfl)); exact rfl) rfl Try.sizeOf73 rfl rfl (fun w14 hC15 => ?_)
            try dsimp only [List.set] at hC15
            refine WL_nil ?_
            refine WA_take 12 rfl (by kernel_rfl) (by kernel_rfl) (by kernel_rfl) rfl (fl_assign rfl) ?_
            refine WL_assign rfl rfl ?_
            refine WL_nil ?_
            refine WA_done (by kernel_rfl) ?_
            have hq4 := Option.some.inj hr3
            subst hq4
            have hC16 : Ctx [] w0 _ [Item.box b1 [u2, (.int .i64 a2.2)], Item.own v12 (x9.1.1 : (List (Int × (List Int)))), Item.own v11 (x8.2.2 : (List Int)), Item.own v10 (x7.1 : (List (Int × (List Int)))), Item.box b4 [v12, (.int .i64 x9.1.2)], Item.own v2 (x6 : (List Int)), Item.box b2 [(.bool a3.1), (.int .i64 a3.2.1), u3]] := hC15.front 6 rfl
            have hC17 : Ctx [] w0 _ [Item.box b2 [(.bool a3.1), (.int .i64 a3.2.1), u3], Item.box b1 [u2, (.int .i64 a2.2)], Item.own v12 (x9.1.1 : (List (Int × (List Int)))), Item.own v11 (x8.2.2 : (List Int)), Item.own v10 (x7.1 : (List (Int × (List Int)))), Item.box b4 [v12, (.int .i64 x9.1.2)], Item.own v2 (x6 : (List Int))] := hC16.front 6 rfl
            have hC18 : Ctx [] w0 _ [Item.own v12 (x9.1.1 : (List (Int × (List Int)))), Item.box b2 [(.bool a3.1), (.int .i64 a3.2.1), u3], Item.box b1 [u2, (.int .i64 a2.2)], Item.own v11 (x8.2.2 : (List Int)), Item.own v10 (x7.1 : (List (Int × (List Int)))), Item.box b4 [v12, (.int .i64 x9.1.2)], Item.own v2 (x6 : (List Int))] := hC17.front 2 rfl
            have hC19 : Ctx [] w0 _ [Item.box b4 [v12, (.int .i64 x9.1.2)], Item.own v12 (x9.1.1 : (List (Int × (List Int)))), Item.box b2 [(.bool a3.1), (.int .i64 a3.2.1), u3], Item.box b1 [u2, (.int .i64 a2.2)], Item.own v11 (x8.2.2 : (List Int)), Item.own v10 (x7.1 : (List (Int × (List Int)))), Item.own v2 (x6 : (List Int))] := hC18.front 5 rfl
            have hC20 : Ctx [] w0 _ [Item.box b4 [v12, (.int .i64 x9.1.2)], Item.own v12 (x9.1.1 : (List (Int × (List Int)))), Item.box b2 [(.bool a3.1), (.int .i64 a3.2.1), u3], Item.box b1 [u2, (.int .i64 a2.2)]] := hC19.headN 4
            refine nrm_sub (l' := [(0, u1), (4, (ptr b1 0)), (5, (ptr b2 0)), (8, (ptr b4 0)), (9, (.bool x9.2))]) ⟨rfl, rfl, rfl, rfl, rfl, trivial⟩ ?_
            exact ⟨x9.2, b4, v12, x9.1.1, x9.1.2, rfl, rfl, hC20⟩
        · rintro _ w5 ⟨x3, b3, v1, x4, x5, rfl, rfl, hC5⟩
          try dsimp only at hF
          refine W_seq_reg ?_
          refine WL_move rfl rfl ?_
          obtain ⟨x10, hr8, hF⟩ := bind_some hF
          refine WL_call Try.call15 rfl rfl (c_Q_toIntS a1 u1 (g1.now hC5.keep) x10 hr8) ?_
          rintro v13 w15 ⟨hB14, F7, hv9, hn6, hb6⟩
          have hC21 := hC5.push hB14 (A := Item.own v13 x10) hv9 hn6 hb6
          refine WL_assign rfl rfl ?_
          refine WL_nil ?_
          refine W_seq_reg ?_
          refine WL_load_box_agg [u2, (.int .i64 a2.2)] hC21 4 rfl rfl rfl Try.isAgg65 Try.sizeOf65 rfl rfl ?_
          obtain ⟨x11, hr9, hF⟩ := bind_some hF
          refine WL_call Try.call44 rfl rfl (c_Q_toSource (a2.1, a2.2) u2 (g2.now hC21.keep) x11 hr9) ?_
          rintro v14 w16 ⟨hB15, F8, hv10, hn7, hb7⟩
          have hC22 := hC21.push hB15 (A := Item.own v14 x11) hv10 hn7 hb7
          obtain ⟨v15, rfl, hC23⟩ := st73_own hC22
          refine WL_alloc hC23 zero73 rfl rfl (fun b5 w17 hC24 hB16 => ?_)
          refine WL_store_box_agg (cs' := [v15, (.int .i64 x11.2)]) (new := [v15, (.int .i64 x11.2)]) hC24 0 rfl rfl (by intro v hv; simp only [List.mem_cons, List.not_mem_nil, or_false] at hv; rcases hv with rfl | rfl; exact (ro_one (hC24.ro 1 rfl)); exact rfl) rfl Try.sizeOf73 rfl rfl (fun w18 hC25 => ?_)
          try dsimp only [List.set] at hC25
          refine WL_nil ?_
          refine W_seq_reg ?_
          refine WL_load_box_agg [(.bool a3.1), (.int .i64 a3.2.1), u3] hC25 5 rfl rfl rfl Try.isAgg69 Try.sizeOf69 rfl rfl ?_
          obtain ⟨x12, hr10, hF⟩ := bind_some hF
          refine WL_call Try.call45 rfl rfl (c_Q_toChange (a3.1, (a3.2.1, a3.2.2)) u3 (g3.now hC25.keep) x12 hr10) ?_
          rintro v16 w19 ⟨hB17, F9, hv11, hn8, hb8⟩
          have hC26 := hC25.push hB17 (A := Item.own v16 x12) hv11 hn8 hb8
          obtain ⟨v17, rfl, hC27⟩ := st79_own hC26
          refine WL_alloc hC27 zero79 rfl rfl (fun b6 w20 hC28 hB18 => ?_)
          refine WL_store_box_agg (cs' := [(.bool x12.1), (.int .i64 x12.2.1), v17]) (new := [(.bool x12.1), (.int .i64 x12.2.1), v17]) hC28 0 rfl rfl (by intro v hv; simp only [List.mem_cons, List.not_mem_nil, or_false] at hv; rcases hv with rfl | rfl | rfl; exact rfl; exact rfl; exact (ro_one (hC28.ro 1 rfl))) rfl Try.sizeOf79 rfl rfl (fun w21 hC29 => ?_)
          try dsimp only [List.set] at hC29
          refine WL_nil ?_
          refine W_seq_reg ?_
          refine WL_move rfl rfl ?_
          refine WL_load_box_agg [v15, (.int .i64 x11.2)] hC29 2 rfl rfl rfl Try.isAgg73 Try.sizeOf73 rfl rfl ?_
          refine WL_load_box_agg [(.bool x12.1), (.int .i64 x12.2.1), v17] hC29 0 rfl rfl rfl Try.isAgg79 Try.sizeOf79 rfl rfl ?_
          obtain ⟨x13, hr11, hF⟩ := bind_some hF
          refine WL_call Try.call46 rfl rfl (c_M_ApplyChange x10 v13 ((hC29.ro 4 rfl).now (Keep.refl _ _)) (x11.1, x11.2) v15 ((hC29.ro 3 rfl).now (Keep.refl _ _)) (x12.1, (x12.2.1, x12.2.2)) v17 ((hC29.ro 1 rfl).now (Keep.refl _ _)) x13 hr11) ?_
          rintro _ w22 ⟨hB19, v18, v19, F10, F11, rfl, hv12, hv13, hn9, hb9⟩
          obtain ⟨rfl, rfl⟩ := val_bool hv13
          have hC30 := hC29.pushL hB19 (Bs := [Item.own v18 x13.1]) (Fs := [F10]) ⟨F10, _, rfl, hv12, rfl⟩ (by simpa using hn9) (fun b h => hb9 b (by simpa using h))
          obtain ⟨v20, rfl, hC31⟩ := st73_own hC30
          refine WL_move rfl rfl ?_
          refine WL_extract rfl rfl rfl ?_
          refine WL_extract rfl rfl rfl ?_
          refine WL_alloc hC31 zero73 rfl rfl (fun b7 w23 hC32 hB20 => ?_)
          refine WL_store_box_agg (cs' := [v20, (.int .i64 x13.1.2)]) (new := [v20, (.int .i64 x13.1.2)]) hC32 0 rfl rfl (by intro v hv; simp only [List.mem_cons, List.not_mem_nil, or_false] at hv; rcases hv with rfl | rfl; exact (ro_one (hC32.ro 1 rfl)); exact rfl) rfl Try.sizeOf73 rfl rfl (fun w24 hC33 => ?_)
          try dsimp only [List.set] at hC33
          refine WL_assign rfl rfl ?_
          refine WL_nil ?_
          refine W_seq ?_
          obtain ⟨r2, hr12, hF⟩ := bind_some hF
          refine W_cut (fun l w => ∃ x14 : Bool, x14 = r2 ∧ l = [(0, u1), (4, (ptr b1 0)), (5, (ptr b2 0)), (8, (ptr b3 0)), (9, (.bool x3)), (10, v13), (11, (ptr b5 0)), (12, (ptr b6 0)), (13, (ptr b7 0)), (14, (.bool x13.2)), (64, (.bool x14))] ∧ Below w24.heap.size w24 w ∧ Ctx [] w0 w [Item.box b7 [v20, (.int .i64 x13.1.2)], Item.own v20 (x13.1.1 : (List (Int × (List Int)))), Item.box b6 [(.bool x12.1), (.int .i64 x12.2.1), v17], Item.own v17 (x12.2.2 : (List Int)), Item.box b5 [v15, (.int .i64 x11.2)], Item.own v15 (x11.1 : (List (Int × (List Int)))), Item.own v13 (x10 : (List Int)), Item.box b3 [v1, (.int .i64 x5)], Item.own v1 (x4 : (List (Int × (List Int)))), Item.box b2 [(.bool a3.1), (.int .i64 a3.2.1), u3], Item.box b1 [u2, (.int .i64 a2.2)]]) ?_ ?_
          · refine W_reg ?_
            refine WL_load_box_agg [v20, (.int .i64 x13.1.2)] hC33 0 rfl rfl rfl Try.isAgg73 Try.sizeOf73 rfl rfl ?_
            refine WL_load_box_agg [v1, (.int .i64 x5)] hC33 7 rfl rfl rfl Try.isAgg73 Try.sizeOf73 rfl rfl ?_
            obtain ⟨x15, hr13, hr12⟩ := bind_some hr12
            refine WL_call Try.call47 rfl rfl (c_Q_eqSource (x13.1.1, x13.1.2) v20 ((hC33.ro 1 rfl).now (Keep.refl _ _)) (x4, x5) v1 ((hC33.ro 8 rfl).now (Keep.refl _ _)) x15 hr13) ?_
            intro _ w26 hv14
            obtain ⟨rfl, hB22⟩ := res_bool hv14
            have hC35 := hC33.grow hB22
            refine WL_not rfl rfl ?_
            refine WL_move rfl rfl ?_
            refine WL_fork (fun hc4 => ?_) (fun hc4 => ?_)
            · replace hr12 := ite_t hr12 hc4
              refine WL_guard_skip rfl rfl (by simp) rfl ?_
              refine WL_guard_skip rfl rfl (by simp) rfl ?_
              refine WL_guard_skip rfl rfl (by simp) rfl ?_
              refine WL_pick_t rfl rfl rfl ?_
              refine WL_nil ?_
              have hq5 := Option.some.inj hr12
              subst hq5
              refine nrm_sub (l' := [(0, u1), (4, (ptr b1 0)), (5, (ptr b2 0)), (8, (ptr b3 0)), (9, (.bool x3)), (10, v13), (11, (ptr b5 0)), (12, (ptr b6 0)), (13, (ptr b7 0)), (14, (.bool x13.2)), (64, (.bool true))]) ⟨rfl, rfl, rfl, rfl, rfl, rfl, rfl, rfl, rfl, rfl, rfl, trivial⟩ ?_
              exact ⟨true, rfl, rfl, (Keep.of hB22).below, hC35⟩
            · replace hr12 := ite_f hr12 hc4
              refine WL_guard rfl rfl ?_
              refine WL_move rfl rfl ?_
              refine WL_guard rfl rfl ?_
              refine WL_move rfl rfl ?_
              refine WL_guard rfl rfl ?_
              refine WL_bool_neq Try.underlying4 rfl rfl rfl ?_
              refine WL_pick_f rfl rfl rfl ?_
              refine WL_nil ?_
              have hq6 := Option.some.inj hr12
              subst hq6
              refine nrm_sub (l' := [(0, u1), (4, (ptr b1 0)), (5, (ptr b2 0)), (8, (ptr b3 0)), (9, (.bool x3)), (10, v13), (11, (ptr b5 0)), (12, (ptr b6 0)), (13, (ptr b7 0)), (14, (.bool x13.2)), (64, (.bool (!decide (x13.2 = x3))))]) ⟨rfl, rfl, rfl, rfl, rfl, rfl, rfl, rfl, rfl, rfl, rfl, trivial⟩ ?_
              exact ⟨(!decide (x13.2 = x3)), rfl, rfl, (Keep.of hB22).below, hC35⟩
          · rintro _ w25 ⟨x14, rfl, rfl, hB21, hC34⟩
            try dsimp only at hF
            refine W_cond rfl (fun hc5 => ?_) (fun hc5 => ?_)
            · replace hF := ite_t hF hc5
              refine W_seq_reg ?_
              refine WL_assign rfl rfl ?_
              refine WL_nil ?_
              refine W_ret ?_
              refine nrm_ret ?_
              have hq7 := Option.some.inj hF
              subst hq7
              refine fn_ret1 rfl rfl ?_
              exact ⟨_, rfl, bool_res hC34 _⟩
            · replace hF := ite_f hF hc5
              refine W_skip ?_
              refine nrm_normal ?_
              refine W_seq ?_
              refine W_seq_reg ?_
              refine WL_move rfl rfl ?_
              refine WL_move rfl rfl ?_
              obtain ⟨x16, hr14, hF⟩ := bind_some hF
              refine WL_call Try.call15 rfl rfl (c_Q_toIntS a1 u1 (g1.now hC34.keep) x16 hr14) ?_
              rintro v21 w27 ⟨hB23, F12, hv15, hn10, hb10⟩
              have hC36 := hC34.push hB23 (A := Item.own v21 x16) hv15 hn10 hb10
              obtain ⟨x17, hr15, hF⟩ := bind_some hF
              refine WL_call Try.call19 rfl rfl (c_Q_eqIntS x10 v13 ((hC36.ro 7 rfl).now (Keep.refl _ _)) x16 v21 ((hC36.ro 0 rfl).now (Keep.refl _ _)) x17 hr15) ?_
              intro _ w28 hv16
              obtain ⟨rfl, hB24⟩ := res_bool hv16
              have hC37 := hC36.grow hB24
              refine WL_not rfl rfl ?_
              refine WL_nil ?_
              refine W_cond rfl (fun hc6 => ?_) (fun hc6 => ?_)
              · replace hF := ite_t hF hc6
                refine W_seq_reg ?_
                refine WL_assign rfl rfl ?_
                refine WL_nil ?_
                refine W_ret ?_
                refine nrm_ret ?_
                have hq8 := Option.some.inj hF
                subst hq8
                refine fn_ret1 rfl rfl ?_
                exact ⟨_, rfl, bool_res hC37 _⟩
              · replace hF := ite_f hF hc6
                refine W_skip ?_
                refine nrm_normal ?_
                refine W_seq ?_
                refine W_seq ?_
                refine W_drawn 5 rfl hmix (fun w29 hB25 => ?_)
                have hC38 := hC37.grow hB25
                obtain ⟨x18, hr16, hF⟩ := bind_some hF
                refine WA.sub (l' := [(0, u1), (4, (ptr b1 0)), (5, (ptr b2 0)), (8, (ptr b3 0)), (9, (.bool x3)), (10, v13), (11, (ptr b5 0)), (12, (ptr b6 0)), (13, (ptr b7 0)), (14, (.bool x13.2)), (64, (.bool x14)), (65, v13), (66, u1), (67, v21), (68, (.bool x17)), (69, (.bool (!x17)))]) ?_ ⟨rfl, rfl, rfl, rfl, rfl, rfl, rfl, rfl, rfl, rfl, rfl, rfl, rfl, rfl, rfl, rfl, trivial⟩
                refine WA_postsE [⟨0, [], fun vs => PW.val (.agg #[v15, (.int .i64 x11.2)]), []⟩, ⟨1, [], fun vs => PW.val (.agg #[u2, (.int .i64 a2.2)]), []⟩, ⟨2, [], fun vs => PW.own x18, []⟩] [[], [], [1]] 2 rfl (by kernel_rfl) (by kernel_rfl) rfl ?_ ?_
                · refine StepsE_cons rfl ?_ ?_
                  · intro w31 hB27
                    refine DepsE_nil ?_
                    refine ⟨_, rfl, ?_⟩
                    refine WL_load_box_agg [v15, (.int .i64 x11.2)] (hC38.grow hB27) 5 rfl rfl rfl Try.isAgg73 Try.sizeOf73 rfl rfl ?_
                    refine WL_nil ?_
                    exact FinE_val (Below.refl _ _) rfl rfl ⟨rfl, rfl⟩
                  refine StepsE_cons rfl ?_ ?_
                  · intro w31 hB27
                    refine DepsE_nil ?_
                    refine ⟨_, rfl, ?_⟩
                    refine WL_load_box_agg [u2, (.int .i64 a2.2)] (hC38.grow hB27) 11 rfl rfl rfl Try.isAgg65 Try.sizeOf65 rfl rfl ?_
                    refine WL_nil ?_
                    exact FinE_val (Below.refl _ _) rfl rfl ⟨rfl, rfl⟩
                  refine StepsE_cons rfl ?_ ?_
                  · intro w31 hB27
                    refine DepsE_cons rfl rfl rfl ?_
                    rintro _ _ ⟨rfl, rfl⟩ _
                    refine DepsE_nil ?_
                    refine ⟨_, rfl, ?_⟩
                    refine WL_call Try.call44 rfl rfl (c_Q_toSource (a2.1, a2.2) u2 (g2.now (hC38.keep.then hB27)) x18 hr16) ?_
                    rintro v22 w30 ⟨hB26, F13, hv17, hn11, hb11⟩
                    refine WL_nil ?_
                    exact FinE_own hB26 rfl rfl hv17 hn11 hb11 (Val.inh hv17)
                  exact StepsE_nil
                · intro w32 hB28
                  refine AllE_cons rfl rfl rfl ?_
                  rintro _ _ ⟨rfl, rfl⟩
                  refine AllE_cons rfl rfl rfl ?_
                  rintro _ _ ⟨rfl, rfl⟩
                  refine AllE_cons rfl rfl rfl ?_
                  intro v22 F13 hv17
                  refine AllE_nil ?_
                  intro hn12 hb12
                  have hC39 := hC38.pushL hB28 (Bs := [Item.own v22 (x18 : ((List (Int × (List Int))) × Int))]) (Fs := [F13]) ⟨F13, _, rfl, hv17, rfl⟩ (by simpa using hn12) (fun b h => (hb12 b (by simpa using h)).1)
                  obtain ⟨v24, rfl, hC40⟩ := st73_own hC39
                  obtain ⟨x19, hr17, hF⟩ := bind_some hF
                  refine WA_one 3 (by kernel_rfl) rfl ?_
                  refine WL_call Try.call47 rfl rfl (c_Q_eqSource (x11.1, x11.2) v15 ((hC40.ro 7 rfl).now (Keep.refl _ _)) x18 v24 ((hC40.ro 0 rfl).now (Keep.refl _ _)) x19 hr17) ?_
                  intro _ w33 hv18
                  obtain ⟨rfl, hB29⟩ := res_bool hv18
                  have hC41 := hC40.grow hB29
                  refine WL_nil ?_
                  refine WA_take 4 rfl (by kernel_rfl) (by kernel_rfl) (by kernel_rfl) rfl (fl_not rfl) ?_
                  refine WL_not rfl rfl ?_
                  refine WL_nil ?_
                  refine WA_done (by kernel_rfl) ?_
                  refine nrm_normal ?_
                  refine W_cond rfl (fun hc7 => ?_) (fun hc7 => ?_)
                  · replace hF := ite_t hF hc7
                    refine W_seq_reg ?_
                    refine WL_assign rfl rfl ?_
                    refine WL_nil ?_
                    refine W_ret ?_
                    refine nrm_ret ?_
                    have hq9 := Option.some.inj hF
                    subst hq9
                    refine fn_ret1 rfl rfl ?_
                    exact ⟨_, rfl, bool_res hC41 _⟩
                  · replace hF := ite_f hF hc7
                    refine W_skip ?_
                    refine nrm_normal ?_
                    refine W_seq ?_
                    refine W_seq ?_
                    refine W_drawn 5 rfl hmix (fun w34 hB30 => ?_)
                    have hC42 := hC41.grow hB30
                    obtain ⟨x20, hr18, hF⟩ := bind_some hF
                    refine WA.sub (l' := [(0, u1), (4, (ptr b1 0)), (5, (ptr b2 0)), (8, (ptr b3 0)), (9, (.bool x3)), (10, v13), (11, (ptr b5 0)), (12, (ptr b6 0)), (13, (ptr b7 0)), (14, (.bool x13.2)), (64, (.bool x14)), (65, v13), (66, u1), (67, v21), (68, (.bool x17)), (69, (.bool (!x17))), (70, (.agg #[v15, (.int .i64 x11.2)])), (71, (.agg #[u2, (.int .i64 a2.2)])), (72, (.agg #[v24, (.int .i64 x18.2)])), (73, (.bool x19)), (74, (.bool (!x19)))]) ?_ ⟨rfl, rfl, rfl, rfl, rfl, rfl, rfl, rfl, rfl, rfl, rfl, rfl, rfl, rfl, rfl, rfl, rfl, rfl, rfl, rfl, rfl, trivial⟩
                    refine WA_postsE [⟨0, [], fun vs => PW.val (.agg #[(.bool x12.1), (.int .i64 x12.2.1), v17]), []⟩, ⟨1, [], fun vs => PW.val (.agg #[(.bool a3.1), (.int .i64 a3.2.1), u3]), []⟩, ⟨2, [], fun vs => PW.own x20, []⟩] [[], [], [1]] 2 rfl (by kernel_rfl) (by kernel_rfl) rfl ?_ ?_
                    · refine StepsE_cons rfl ?_ ?_
                      · intro w36 hB32
                        refine DepsE_nil ?_
                        refine ⟨_, rfl, ?_⟩
                        refine WL_load_box_agg [(.bool x12.1), (.int .i64 x12.2.1), v17] (hC42.grow hB32) 4 rfl rfl rfl Try.isAgg79 Try.sizeOf79 rfl rfl ?_
                        refine WL_nil ?_
                        exact FinE_val (Below.refl _ _) rfl rfl ⟨rfl, rfl⟩
                      refine StepsE_cons rfl ?_ ?_
                      · intro w36 hB32
                        refine DepsE_nil ?_
                        refine ⟨_, rfl, ?_⟩
                        refine WL_load_box_agg [(.bool a3.1), (.int .i64 a3.2.1), u3] (hC42.grow hB32) 11 rfl rfl rfl Try.isAgg69 Try.sizeOf69 rfl rfl ?_
                        refine WL_nil ?_
                        exact FinE_val (Below.refl _ _) rfl rfl ⟨rfl, rfl⟩
                      refine StepsE_cons rfl ?_ ?_
                      · intro w36 hB32
                        refine DepsE_cons rfl rfl rfl ?_
                        rintro _ _ ⟨rfl, rfl⟩ _
                        refine DepsE_nil ?_
                        refine ⟨_, rfl, ?_⟩
                        refine WL_call Try.call45 rfl rfl (c_Q_toChange (a3.1, (a3.2.1, a3.2.2)) u3 (g3.now (hC42.keep.then hB32)) x20 hr18) ?_
                        rintro v25 w35 ⟨hB31, F14, hv19, hn13, hb13⟩
                        refine WL_nil ?_
                        exact FinE_own hB31 rfl rfl hv19 hn13 hb13 (Val.inh hv19)
                      exact StepsE_nil
                    · intro w37 hB33
                      refine AllE_cons rfl rfl rfl ?_
                      rintro _ _ ⟨rfl, rfl⟩
                      refine AllE_cons rfl rfl rfl ?_
                      rintro _ _ ⟨rfl, rfl⟩
                      refine AllE_cons rfl rfl rfl ?_
                      intro v25 F14 hv19
                      refine AllE_nil ?_
                      intro hn14 hb14
                      have hC43 := hC42.pushL hB33 (Bs := [Item.own v25 (x20 : (Bool × (Int × (List Int))))]) (Fs := [F14]) ⟨F14, _, rfl, hv19, rfl⟩ (by simpa using hn14) (fun b h => (hb14 b (by simpa using h)).1)
                      obtain ⟨v27, rfl, hC44⟩ := st79_own hC43
                      obtain ⟨x21, hr19, hF⟩ := bind_some hF
                      refine WA_one 3 (by kernel_rfl) rfl ?_
                      refine WL_call Try.call48 rfl rfl (c_Q_eqChange (x12.1, (x12.2.1, x12.2.2)) v17 ((hC44.ro 6 rfl).now (Keep.refl _ _)) x20 v27 ((hC44.ro 0 rfl).now (Keep.refl _ _)) x21 hr19) ?_
                      intro _ w38 hv20
                      obtain ⟨rfl, hB34⟩ := res_bool hv20
                      have hC45 := hC44.grow hB34
                      refine WL_nil ?_
                      refine WA_take 4 rfl (by kernel_rfl) (by kernel_rfl) (by kernel_rfl) rfl (fl_not rfl) ?_
                      refine WL_not rfl rfl ?_
                      refine WL_nil ?_
                      refine WA_done (by kernel_rfl) ?_
                      refine nrm_normal ?_
                      refine W_cond rfl (fun hc8 => ?_) (fun hc8 => ?_)
                      · replace hF := ite_t hF hc8
                        refine W_seq_reg ?_
                        refine WL_assign rfl rfl ?_
                        refine WL_nil ?_
                        refine W_ret ?_
                        refine nrm_ret ?_
                        have hq10 := Option.some.inj hF
                        subst hq10
                        refine fn_ret1 rfl rfl ?_
                        exact ⟨_, rfl, bool_res hC45 _⟩
                      · replace hF := ite_f hF hc8
                        refine W_skip ?_
                        refine nrm_normal ?_
                        refine W_seq_reg ?_
                        refine WL_assign rfl rfl ?_
                        refine WL_nil ?_
                        refine W_seq_reg ?_
                        refine WL_move rfl rfl ?_
                        refine WL_move rfl rfl ?_
                        obtain ⟨x22, hr20, hF⟩ := bind_some hF
                        have hC46 : Ctx [] w0 _ [Item.own v13 (x10 : (List Int)), Item.own v27 (x20.2.2 : (List Int)), Item.own v24 (x18.1 : (List (Int × (List Int)))), Item.own v21 (x16 : (List Int)), Item.box b7 [v20, (.int .i64 x13.1.2)], Item.own v20 (x13.1.1 : (List (Int × (List Int)))), Item.box b6 [(.bool x12.1), (.int .i64 x12.2.1), v17], Item.own v17 (x12.2.2 : (List Int)), Item.box b5 [v15, (.int .i64 x11.2)], Item.own v15 (x11.1 : (List (Int × (List Int)))), Item.box b3 [v1, (.int .i64 x5)], Item.own v1 (x4 : (List (Int × (List Int)))), Item.box b2 [(.bool a3.1), (.int .i64 a3.2.1), u3], Item.box b1 [u2, (.int .i64 a2.2)]] := hC45.front 9 rfl
                        obtain ⟨Fs1, hH1, hn15, hF1, hO1, hb15⟩ := Ctx.lend2 (As := [Item.own v27 (x20.2.2 : (List Int)), Item.own v24 (x18.1 : (List (Int × (List Int)))), Item.own v21 (x16 : (List Int)), Item.box b7 [v20, (.int .i64 x13.1.2)], Item.own v20 (x13.1.1 : (List (Int × (List Int)))), Item.box b6 [(.bool x12.1), (.int .i64 x12.2.1), v17], Item.own v17 (x12.2.2 : (List Int)), Item.box b5 [v15, (.int .i64 x11.2)], Item.own v15 (x11.1 : (List (Int × (List Int)))), Item.box b3 [v1, (.int .i64 x5)], Item.own v1 (x4 : (List (Int × (List Int)))), Item.box b2 [(.bool a3.1), (.int .i64 a3.2.1), u3], Item.box b1 [u2, (.int .i64 a2.2)]]) [Item.own v13 (x10 : (List Int))] hC46
                        refine WL_call Try.call49 rfl rfl (c_Q_markIntS x10 v13 1 hH1 hn15 x22 hr20) ?_
                        rintro _ w39 ⟨rfl, hq11⟩
                        have hC47 : Ctx [] w0 w39 [Item.own v13 (x22.2 : (List Int)), Item.own v27 (x20.2.2 : (List Int)), Item.own v24 (x18.1 : (List (Int × (List Int)))), Item.own v21 (x16 : (List Int)), Item.box b7 [v20, (.int .i64 x13.1.2)], Item.own v20 (x13.1.1 : (List (Int × (List Int)))), Item.box b6 [(.bool x12.1), (.int .i64 x12.2.1), v17], Item.own v17 (x12.2.2 : (List Int)), Item.box b5 [v15, (.int .i64 x11.2)], Item.own v15 (x11.1 : (List (Int × (List Int)))), Item.box b3 [v1, (.int .i64 x5)], Item.own v1 (x4 : (List (Int × (List Int)))), Item.box b2 [(.bool a3.1), (.int .i64 a3.2.1), u3], Item.box b1 [u2, (.int .i64 a2.2)]] := hb15 _ _ hq11
                        refine WL_assign rfl rfl ?_
                        refine WL_nil ?_
                        refine W_seq_reg ?_
                        refine WL_load_box_agg [v15, (.int .i64 x11.2)] hC47 8 rfl rfl rfl Try.isAgg73 Try.sizeOf73 rfl rfl ?_
                        refine WL_move rfl rfl ?_
                        obtain ⟨x23, hr21, hF⟩ := bind_some hF
                        have hC48 : Ctx [] w0 _ [Item.own v15 (x11.1 : (List (Int × (List Int)))), Item.own v13 (x22.2 : (List Int)), Item.own v27 (x20.2.2 : (List Int)), Item.own v24 (x18.1 : (List (Int × (List Int)))), Item.own v21 (x16 : (List Int)), Item.box b7 [v20, (.int .i64 x13.1.2)], Item.own v20 (x13.1.1 : (List (Int × (List Int)))), Item.box b6 [(.bool x12.1), (.int .i64 x12.2.1), v17], Item.own v17 (x12.2.2 : (List Int)), Item.box b5 [v15, (.int .i64 x11.2)], Item.box b3 [v1, (.int .i64 x5)], Item.own v1 (x4 : (List (Int × (List Int)))), Item.box b2 [(.bool a3.1), (.int .i64 a3.2.1), u3], Item.box b1 [u2, (.int .i64 a2.2)]] := hC47.front 9 rfl
                        obtain ⟨Fs2, hH2, hn16, hF2, hO2, hb16⟩ := Ctx.lend2 (As := [Item.own v13 (x22.2 : (List Int)), Item.own v27 (x20.2.2 : (List Int)), Item.own v24 (x18.1 : (List (Int × (List Int)))), Item.own v21 (x16 : (List Int)), Item.box b7 [v20, (.int .i64 x13.1.2)], Item.own v20 (x13.1.1 : (List (Int × (List Int)))), Item.box b6 [(.bool x12.1), (.int .i64 x12.2.1), v17], Item.own v17 (x12.2.2 : (List Int)), Item.box b5 [v15, (.int .i64 x11.2)], Item.box b3 [v1, (.int .i64 x5)], Item.own v1 (x4 : (List (Int × (List Int)))), Item.box b2 [(.bool a3.1), (.int .i64 a3.2.1), u3], Item.box b1 [u2, (.int .i64 a2.2)]]) [Item.own v15 (x11.1 : (List (Int × (List Int))))] hC48
                        refine WL_call Try.call50 rfl rfl (c_Q_markSource (x11.1, x11.2) v15 x22.1 hH2 hn16 x23 hr21) ?_
                        rintro _ w40 ⟨rfl, hq12⟩
                        have hC49 : Ctx [] w0 w40 [Item.own v15 (x23.2.1 : (List (Int × (List Int)))), Item.own v13 (x22.2 : (List Int)), Item.own v27 (x20.2.2 : (List Int)), Item.own v24 (x18.1 : (List (Int × (List Int)))), Item.own v21 (x16 : (List Int)), Item.box b7 [v20, (.int .i64 x13.1.2)], Item.own v20 (x13.1.1 : (List (Int × (List Int)))), Item.box b6 [(.bool x12.1), (.int .i64 x12.2.1), v17], Item.own v17 (x12.2.2 : (List Int)), Item.box b5 [v15, (.int .i64 x11.2)], Item.box b3 [v1, (.int .i64 x5)], Item.own v1 (x4 : (List (Int × (List Int)))), Item.box b2 [(.bool a3.1), (.int .i64 a3.2.1), u3], Item.box b1 [u2, (.int .i64 a2.2)]] := hb16 _ _ hq12
                        refine WL_assign rfl rfl ?_
                        refine WL_nil ?_
                        refine W_seq_reg ?_
                        refine WL_load_box_agg [(.bool x12.1), (.int .i64 x12.2.1), v17] hC49 7 rfl rfl rfl Try.isAgg79 Try.sizeOf79 rfl rfl ?_
                        refine WL_move rfl rfl ?_
                        obtain ⟨x24, hr22, hF⟩ := bind_some hF
                        have hC50 : Ctx [] w0 _ [Item.own v17 (x12.2.2 : (List Int)), Item.own v15 (x23.2.1 : (List (Int × (List Int)))), Item.own v13 (x22.2 : (List Int)), Item.own v27 (x20.2.2 : (List Int)), Item.own v24 (x18.1 : (List (Int × (List Int)))), Item.own v21 (x16 : (List Int)), Item.box b7 [v20, (.int .i64 x13.1.2)], Item.own v20 (x13.1.1 : (List (Int × (List Int)))), Item.box b6 [(.bool x12.1), (.int .i64 x12.2.1), v17], Item.box b5 [v15, (.int .i64 x11.2)], Item.box b3 [v1, (.int .i64 x5)], Item.own v1 (x4 : (List (Int × (List Int)))), Item.box b2 [(.bool a3.1), (.int .i64 a3.2.1), u3], Item.box b1 [u2, (.int .i64 a2.2)]] := hC49.front 8 rfl
                        obtain ⟨Fs3, hH3, hn17, hF3, hO3, hb17⟩ := Ctx.lend2 (As := [Item.own v15 (x23.2.1 : (List (Int × (List Int)))), Item.own v13 (x22.2 : (List Int)), Item.own v27 (x20.2.2 : (List Int)), Item.own v24 (x18.1 : (List (Int × (List Int)))), Item.own v21 (x16 : (List Int)), Item.box b7 [v20, (.int .i64 x13.1.2)], Item.own v20 (x13.1.1 : (List (Int × (List Int)))), Item.box b6 [(.bool x12.1), (.int .i64 x12.2.1), v17], Item.box b5 [v15, (.int .i64 x11.2)], Item.box b3 [v1, (.int .i64 x5)], Item.own v1 (x4 : (List (Int × (List Int)))), Item.box b2 [(.bool a3.1), (.int .i64 a3.2.1), u3], Item.box b1 [u2, (.int .i64 a2.2)]]) [Item.own v17 (x12.2.2 : (List Int))] hC50
                        refine WL_call Try.call51 rfl rfl (c_Q_markChange (x12.1, (x12.2.1, x12.2.2)) v17 x23.1 hH3 hn17 x24 hr22) ?_
                        rintro _ w41 ⟨rfl, hq13⟩
                        have hC51 : Ctx [] w0 w41 [Item.own v17 (x24.2.2.2 : (List Int)), Item.own v15 (x23.2.1 : (List (Int × (List Int)))), Item.own v13 (x22.2 : (List Int)), Item.own v27 (x20.2.2 : (List Int)), Item.own v24 (x18.1 : (List (Int × (List Int)))), Item.own v21 (x16 : (List Int)), Item.box b7 [v20, (.int .i64 x13.1.2)], Item.own v20 (x13.1.1 : (List (Int × (List Int)))), Item.box b6 [(.bool x12.1), (.int .i64 x12.2.1), v17], Item.box b5 [v15, (.int .i64 x11.2)], Item.box b3 [v1, (.int .i64 x5)], Item.own v1 (x4 : (List (Int × (List Int)))), Item.box b2 [(.bool a3.1), (.int .i64 a3.2.1), u3], Item.box b1 [u2, (.int .i64 a2.2)]] := hb17 _ _ hq13
                        refine WL_assign rfl rfl ?_
                        refine WL_nil ?_
                        refine W_seq ?_
                        obtain ⟨r3, hr23, hF⟩ := bind_some hF
                        refine W_cut (fun l w => ∃ x25 : Bool, x25 = r3 ∧ l = [(0, u1), (4, (ptr b1 0)), (5, (ptr b2 0)), (8, (ptr b3 0)), (9, (.bool x3)), (13, (ptr b7 0)), (101, (.bool x25))] ∧ Below w41.heap.size w41 w ∧ Ctx [] w0 w [Item.box b7 [v20, (.int .i64 x13.1.2)], Item.own v20 (x13.1.1 : (List (Int × (List Int)))), Item.box b3 [v1, (.int .i64 x5)], Item.own v1 (x4 : (List (Int × (List Int)))), Item.box b2 [(.bool a3.1), (.int .i64 a3.2.1), u3], Item.box b1 [u2, (.int .i64 a2.2)]]) ?_ ?_
                        · refine W_reg ?_
                          refine WL_move rfl rfl ?_
                          refine WL_lss rfl rfl rfl ?_
                          refine WL_move rfl rfl ?_
                          refine WL_fork (fun hc9 => ?_) (fun hc9 => ?_)
                          · replace hr23 := ite_t hr23 hc9
                            refine WL_guard_skip rfl rfl (by simp) rfl ?_
                            refine WL_guard_skip rfl rfl (by simp) rfl ?_
                            refine WL_guard_skip rfl rfl (by simp) rfl ?_
                            refine WL_guard_skip rfl rfl (by simp) rfl ?_
                            refine WL_pick_t rfl rfl rfl ?_
                            refine WL_move rfl rfl ?_
                            refine WL_guard_skip rfl rfl (by simp) rfl ?_
                            refine WL_guard_skip rfl rfl (by simp) rfl ?_
                            refine WL_guard_skip rfl rfl (by simp) rfl ?_
                            refine WL_pick_t rfl rfl rfl ?_
                            refine WL_nil ?_
                            have hq14 := Option.some.inj hr23
                            subst hq14
                            have hC53 : Ctx [] w0 _ [Item.box b1 [u2, (.int .i64 a2.2)], Item.own v17 (x24.2.2.2 : (List Int)), Item.own v15 (x23.2.1 : (List (Int × (List Int)))), Item.own v13 (x22.2 : (List Int)), Item.own v27 (x20.2.2 : (List Int)), Item.own v24 (x18.1 : (List (Int × (List Int)))), Item.own v21 (x16 : (List Int)), Item.box b7 [v20, (.int .i64 x13.1.2)], Item.own v20 (x13.1.1 : (List (Int × (List Int)))), Item.box b6 [(.bool x12.1), (.int .i64 x12.2.1), v17], Item.box b5 [v15, (.int .i64 x11.2)], Item.box b3 [v1, (.int .i64 x5)], Item.own v1 (x4 : (List (Int × (List Int)))), Item.box b2 [(.bool a3.1), (.int .i64 a3.2.1), u3]] := hC51.front 13 rfl
                            have hC54 : Ctx [] w0 _ [Item.box b2 [(.bool a3.1), (.int .i64 a3.2.1), u3], Item.box b1 [u2, (.int .i64 a2.2)], Item.own v17 (x24.2.2.2 : (List Int)), Item.own v15 (x23.2.1 : (List (Int × (List Int)))), Item.own v13 (x22.2 : (List Int)), Item.own v27 (x20.2.2 : (List Int)), Item.own v24 (x18.1 : (List (Int × (List Int)))), Item.own v21 (x16 : (List Int)), Item.box b7 [v20, (.int .i64 x13.1.2)], Item.own v20 (x13.1.1 : (List (Int × (List Int)))), Item.box b6 [(.bool x12.1), (.int .i64 x12.2.1), v17], Item.box b5 [v15, (.int .i64 x11.2)], Item.box b3 [v1, (.int .i64 x5)], Item.own v1 (x4 : (List (Int × (List Int))))] := hC53.front 13 rfl
                            have hC55 : Ctx [] w0 _ [Item.own v1 (x4 : (List (Int × (List Int)))), Item.box b2 [(.bool a3.1), (.int .i64 a3.2.1), u3], Item.box b1 [u2, (.int .i64 a2.2)], Item.own v17 (x24.2.2.2 : (List Int)), Item.own v15 (x23.2.1 : (List (Int × (List Int)))), Item.own v13 (x22.2 : (List Int)), Item.own v27 (x20.2.2 : (List Int)), Item.own v24 (x18.1 : (List (Int × (List Int)))), Item.own v21 (x16 : (List Int)), Item.box b7 [v20, (.int .i64 x13.1.2)], Item.own v20 (x13.1.1 : (List (Int × (List Int)))), Item.box b6 [(.bool x12.1), (.int .i64 x12.2.1), v17], Item.box b5 [v15, (.int .i64 x11.2)], Item.box b3 [v1, (.int .i64 x5)]] := hC54.front 13 rfl
                            have hC56 : Ctx [] w0 _ [Item.box b3 [v1, (.int .i64 x5)], Item.own v1 (x4 : (List (Int × (List Int)))), Item.box b2 [(.bool a3.1), (.int .i64 a3.2.1), u3], Item.box b1 [u2, (.int .i64 a2.2)], Item.own v17 (x24.2.2.2 : (List Int)), Item.own v15 (x23.2.1 : (List (Int × (List Int)))), Item.own v13 (x22.2 : (List Int)), Item.own v27 (x20.2.2 : (List Int)), Item.own v24 (x18.1 : (List (Int × (List Int)))), Item.own v21 (x16 : (List Int)), Item.box b7 [v20, (.int .i64 x13.1.2)], Item.own v20 (x13.1.1 : (List (Int × (List Int)))), Item.box b6 [(.bool x12.1), (.int .i64 x12.2.1), v17], Item.box b5 [v15, (.int .i64 x11.2)]] := hC55.front 13 rfl
                            have hC57 : Ctx [] w0 _ [Item.own v20 (x13.1.1 : (List (Int × (List Int)))), Item.box b3 [v1, (.int .i64 x5)], Item.own v1 (x4 : (List (Int × (List Int)))), Item.box b2 [(.bool a3.1), (.int .i64 a3.2.1), u3], Item.box b1 [u2, (.int .i64 a2.2)], Item.own v17 (x24.2.2.2 : (List Int)), Item.own v15 (x23.2.1 : (List (Int × (List Int)))), Item.own v13 (x22.2 : (List Int)), Item.own v27 (x20.2.2 : (List Int)), Item.own v24 (x18.1 : (List (Int × (List Int)))), Item.own v21 (x16 : (List Int)), Item.box b7 [v20, (.int .i64 x13.1.2)], Item.box b6 [(.bool x12.1), (.int .i64 x12.2.1), v17], Item.box b5 [v15, (.int .i64 x11.2)]] := hC56.front 11 rfl
                            have hC58 : Ctx [] w0 _ [Item.box b7 [v20, (.int .i64 x13.1.2)], Item.own v20 (x13.1.1 : (List (Int × (List Int)))), Item.box b3 [v1, (.int .i64 x5)], Item.own v1 (x4 : (List (Int × (List Int)))), Item.box b2 [(.bool a3.1), (.int .i64 a3.2.1), u3], Item.box b1 [u2, (.int .i64 a2.2)], Item.own v17 (x24.2.2.2 : (List Int)), Item.own v15 (x23.2.1 : (List (Int × (List Int)))), Item.own v13 (x22.2 : (List Int)), Item.own v27 (x20.2.2 : (List Int)), Item.own v24 (x18.1 : (List (Int × (List Int)))), Item.own v21 (x16 : (List Int)), Item.box b6 [(.bool x12.1), (.int .i64 x12.2.1), v17], Item.box b5 [v15, (.int .i64 x11.2)]] := hC57.front 11 rfl
                            have hC59 : Ctx [] w0 _ [Item.box b7 [v20, (.int .i64 x13.1.2)], Item.own v20 (x13.1.1 : (List (Int × (List Int)))), Item.box b3 [v1, (.int .i64 x5)], Item.own v1 (x4 : (List (Int × (List Int)))), Item.box b2 [(.bool a3.1), (.int .i64 a3.2.1), u3], Item.box b1 [u2, (.int .i64 a2.2)]] := hC58.headN 6
                            refine nrm_sub (l' := [(0, u1), (4, (ptr b1 0)), (5, (ptr b2 0)), (8, (ptr b3 0)), (9, (.bool x3)), (13, (ptr b7 0)), (101, (.bool true))]) ⟨rfl, rfl, rfl, rfl, rfl, rfl, rfl, trivial⟩ ?_
                            exact ⟨true, rfl, rfl, (Below.refl _ _), hC59⟩
                          · replace hr23 := ite_f hr23 hc9
                            refine WL_guard rfl rfl ?_
                            refine WL_load_box_agg [v20, (.int .i64 x13.1.2)] hC51 6 rfl rfl rfl Try.isAgg73 Try.sizeOf73 rfl rfl ?_
                            refine WL_guard rfl rfl ?_
                            refine WL_load_box_agg [v1, (.int .i64 x5)] hC51 10 rfl rfl rfl Try.isAgg73 Try.sizeOf73 rfl rfl ?_
                            obtain ⟨x26, hr24, hr23⟩ := bind_some hr23
                            refine WL_guard rfl rfl ?_
                            refine WL_call Try.call47 rfl rfl (c_Q_eqSource (x13.1.1, x13.1.2) v20 ((hC51.ro 7 rfl).now (Keep.refl _ _)) (x4, x5) v1 ((hC51.ro 11 rfl).now (Keep.refl _ _)) x26 hr24) ?_
                            intro _ w43 hv21
                            obtain ⟨rfl, hB36⟩ := res_bool hv21
                            have hC60 := hC51.grow hB36
                            refine WL_guard rfl rfl ?_
                            refine WL_not rfl rfl ?_
                            refine WL_pick_f rfl rfl rfl ?_
                            refine WL_move rfl rfl ?_
                            refine WL_fork (fun hc10 => ?_) (fun hc10 => ?_)
                            · replace hr23 := ite_t hr23 hc10
                              refine WL_guard_skip rfl rfl (by simp) rfl ?_
                              refine WL_guard_skip rfl rfl (by simp) rfl ?_
                              refine WL_guard_skip rfl rfl (by simp) rfl ?_
                              refine WL_pick_t rfl rfl rfl ?_
                              refine WL_nil ?_
                              have hq15 := Option.some.inj hr23
                              subst hq15
                              have hC61 : Ctx [] w0 _ [Item.box b1 [u2, (.int .i64 a2.2)], Item.own v17 (x24.2.2.2 : (List Int)), Item.own v15 (x23.2.1 : (List (Int × (List Int)))), Item.own v13 (x22.2 : (List Int)), Item.own v27 (x20.2.2 : (List Int)), Item.own v24 (x18.1 : (List (Int × (List Int)))), Item.own v21 (x16 : (List Int)), Item.box b7 [v20, (.int .i64 x13.1.2)], Item.own v20 (x13.1.1 : (List (Int × (List Int)))), Item.box b6 [(.bool x12.1), (.int .i64 x12.2.1), v17], Item.box b5 [v15, (.int .i64 x11.2)], Item.box b3 [v1, (.int .i64 x5)], Item.own v1 (x4 : (List (Int × (List Int)))), Item.box b2 [(.bool a3.1), (.int .i64 a3.2.1), u3]] := hC60.front 13 rfl
                              have hC62 : Ctx [] w0 _ [Item.box b2 [(.bool a3.1), (.int .i64 a3.2.1), u3], Item.box b1 [u2, (.int .i64 a2.2)], Item.own v17 (x24.2.2.2 : (List Int)), Item.own v15 (x23.2.1 : (List (Int × (List Int)))), Item.own v13 (x22.2 : (List Int)), Item.own v27 (x20.2.2 : (List Int)), Item.own v24 (x18.1 : (List (Int × (List Int)))), Item.own v21 (x16 : (List Int)), Item.box b7 [v20, (.int .i64 x13.1.2)], Item.own v20 (x13.1.1 : (List (Int × (List Int)))), Item.box b6 [(.bool x12.1), (.int .i64 x12.2.1), v17], Item.box b5 [v15, (.int .i64 x11.2)], Item.box b3 [v1, (.int .i64 x5)], Item.own v1 (x4 : (List (Int × (List Int))))] := hC61.front 13 rfl
                              have hC63 : Ctx [] w0 _ [Item.own v1 (x4 : (List (Int × (List Int)))), Item.box b2 [(.bool a3.1), (.int .i64 a3.2.1), u3], Item.box b1 [u2, (.int .i64 a2.2)], Item.own v17 (x24.2.2.2 : (List Int)), Item.own v15 (x23.2.1 : (List (Int × (List Int)))), Item.own v13 (x22.2 : (List Int)), Item.own v27 (x20.2.2 : (List Int)), Item.own v24 (x18.1 : (List (Int × (List Int)))), Item.own v21 (x16 : (List Int)), Item.box b7 [v20, (.int .i64 x13.1.2)], Item.own v20 (x13.1.1 : (List (Int × (List Int)))), Item.box b6 [(.bool x12.1), (.int .i64 x12.2.1), v17], Item.box b5 [v15, (.int .i64 x11.2)], Item.box b3 [v1, (.int .i64 x5)]] := hC62.front 13 rfl
                              have hC64 : Ctx [] w0 _ [Item.box b3 [v1, (.int .i64 x5)], Item.own v1 (x4 : (List (Int × (List Int)))), Item.box b2 [(.bool a3.1), (.int .i64 a3.2.1), u3], Item.box b1 [u2, (.int .i64 a2.2)], Item.own v17 (x24.2.2.2 : (List Int)), Item.own v15 (x23.2.1 : (List (Int × (List Int)))), Item.own v13 (x22.2 : (List Int)), Item.own v27 (x20.2.2 : (List Int)), Item.own v24 (x18.1 : (List (Int × (List Int)))), Item.own v21 (x16 : (List Int)), Item.box b7 [v20, (.int .i64 x13.1.2)], Item.own v20 (x13.1.1 : (List (Int × (List Int)))), Item.box b6 [(.bool x12.1), (.int .i64 x12.2.1), v17], Item.box b5 [v15, (.int .i64 x11.2)]] := hC63.front 13 rfl
                              have hC65 : Ctx [] w0 _ [Item.own v20 (x13.1.1 : (List (Int × (List Int)))), Item.box b3 [v1, (.int .i64 x5)], Item.own v1 (x4 : (List (Int × (List Int)))), Item.box b2 [(.bool a3.1), (.int .i64 a3.2.1), u3], Item.box b1 [u2, (.int .i64 a2.2)], Item.own v17 (x24.2.2.2 : (List Int)), Item.own v15 (x23.2.1 : (List (Int × (List Int)))), Item.own v13 (x22.2 : (List Int)), Item.own v27 (x20.2.2 : (List Int)), Item.own v24 (x18.1 : (List (Int × (List Int)))), Item.own v21 (x16 : (List Int)), Item.box b7 [v20, (.int .i64 x13.1.2)], Item.box b6 [(.bool x12.1), (.int .i64 x12.2.1), v17], Item.box b5 [v15, (.int .i64 x11.2)]] := hC64.front 11 rfl
                              have hC66 : Ctx [] w0 _ [Item.box b7 [v20, (.int .i64 x13.1.2)], Item.own v20 (x13.1.1 : (List (Int × (List Int)))), Item.box b3 [v1, (.int .i64 x5)], Item.own v1 (x4 : (List (Int × (List Int)))), Item.box b2 [(.bool a3.1), (.int .i64 a3.2.1), u3], Item.box b1 [u2, (.int .i64 a2.2)], Item.own v17 (x24.2.2.2 : (List Int)), Item.own v15 (x23.2.1 : (List (Int × (List Int)))), Item.own v13 (x22.2 : (List Int)), Item.own v27 (x20.2.2 : (List Int)), Item.own v24 (x18.1 : (List (Int × (List Int)))), Item.own v21 (x16 : (List Int)), Item.box b6 [(.bool x12.1), (.int .i64 x12.2.1), v17], Item.box b5 [v15, (.int .i64 x11.2)]] := hC65.front 11 rfl
                              have hC67 : Ctx [] w0 _ [Item.box b7 [v20, (.int .i64 x13.1.2)], Item.own v20 (x13.1.1 : (List (Int × (List Int)))), Item.box b3 [v1, (.int .i64 x5)], Item.own v1 (x4 : (List (Int × (List Int)))), Item.box b2 [(.bool a3.1), (.int .i64 a3.2.1), u3], Item.box b1 [u2, (.int .i64 a2.2)]] := hC66.headN 6
                              refine nrm_sub (l' := [(0, u1), (4, (ptr b1 0)), (5, (ptr b2 0)), (8, (ptr b3 0)), (9, (.bool x3)), (13, (ptr b7 0)), (101, (.bool true))]) ⟨rfl, rfl, rfl, rfl, rfl, rfl, rfl, trivial⟩ ?_
                              exact ⟨true, rfl, rfl, (Keep.of hB36).below, hC67⟩
                            · replace hr23 := ite_f hr23 hc10
                              refine WL_guard rfl rfl ?_
                              refine WL_move rfl rfl ?_
                              refine WL_guard rfl rfl ?_
                              refine WL_move rfl rfl ?_
                              refine WL_guard rfl rfl ?_
                              refine WL_bool_neq Try.underlying4 rfl rfl rfl ?_
                              refine WL_pick_f rfl rfl rfl ?_
                              refine WL_nil ?_
                              have hq16 := Option.some.inj hr23
                              subst hq16
                              have hC68 : Ctx [] w0 _ [Item.box b1 [u2, (.int .i64 a2.2)], Item.own v17 (x24.2.2.2 : (List Int)), Item.own v15 (x23.2.1 : (List (Int × (List Int)))), Item.own v13 (x22.2 : (List Int)), Item.own v27 (x20.2.2 : (List Int)), Item.own v24 (x18.1 : (List (Int × (List Int)))), Item.own v21 (x16 : (List Int)), Item.box b7 [v20, (.int .i64 x13.1.2)], Item.own v20 (x13.1.1 : (List (Int × (List Int)))), Item.box b6 [(.bool x12.1), (.int .i64 x12.2.1), v17], Item.box b5 [v15, (.int .i64 x11.2)], Item.box b3 [v1, (.int .i64 x5)], Item.own v1 (x4 : (List (Int × (List Int)))), Item.box b2 [(.bool a3.1), (.int .i64 a3.2.1), u3]] := hC60.front 13 rfl
                              have hC69 : Ctx [] w0 _ [Item.box b2 [(.bool a3.1), (.int .i64 a3.2.1), u3], Item.box b1 [u2, (.int .i64 a2.2)], Item.own v17 (x24.2.2.2 : (List Int)), Item.own v15 (x23.2.1 : (List (Int × (List Int)))), Item.own v13 (x22.2 : (List Int)), Item.own v27 (x20.2.2 : (List Int)), Item.own v24 (x18.1 : (List (Int × (List Int)))), Item.own v21 (x16 : (List Int)), Item.box b7 [v20, (.int .i64 x13.1.2)], Item.own v20 (x13.1.1 : (List (Int × (List Int)))), Item.box b6 [(.bool x12.1), (.int .i64 x12.2.1), v17], Item.box b5 [v15, (.int .i64 x11.2)], Item.box b3 [v1, (.int .i64 x5)], Item.own v1 (x4 : (List (Int × (List Int))))] := hC68.front 13 rfl
                              have hC70 : Ctx [] w0 _ [Item.own v1 (x4 : (List (Int × (List Int)))), Item.box b2 [(.bool a3.1), (.int .i64 a3.2.1), u3], Item.box b1 [u2, (.int .i64 a2.2)], Item.own v17 (x24.2.2.2 : (List Int)), Item.own v15 (x23.2.1 : (List (Int × (List Int)))), Item.own v13 (x22.2 : (List Int)), Item.own v27 (x20.2.2 : (List Int)), Item.own v24 (x18.1 : (List (Int × (List Int)))), Item.own v21 (x16 : (List Int)), Item.box b7 [v20, (.int .i64 x13.1.2)], Item.own v20 (x13.1.1 : (List (Int × (List Int)))), Item.box b6 [(.bool x12.1), (.int .i64 x12.2.1), v17], Item.box b5 [v15, (.int .i64 x11.2)], Item.box b3 [v1, (.int .i64 x5)]] := hC69.front 13 rfl
                              have hC71 : Ctx [] w0 _ [Item.box b3 [v1, (.int .i64 x5)], Item.own v1 (x4 : (List (Int × (List Int)))), Item.box b2 [(.bool a3.1), (.int .i64 a3.2.1), u3], Item.box b1 [u2, (.int .i64 a2.2)], Item.own v17 (x24.2.2.2 : (List Int)), Item.own v15 (x23.2.1 : (List (Int × (List Int)))), Item.own v13 (x22.2 : (List Int)), Item.own v27 (x20.2.2 : (List Int)), Item.own v24 (x18.1 : (List (Int × (List Int)))), Item.own v21 (x16 : (List Int)), Item.box b7 [v20, (.int .i64 x13.1.2)], Item.own v20 (x13.1.1 : (List (Int × (List Int)))), Item.box b6 [(.bool x12.1), (.int .i64 x12.2.1), v17], Item.box b5 [v15, (.int .i64 x11.2)]] := hC70.front 13 rfl
                              have hC72 : Ctx [] w0 _ [Item.own v20 (x13.1.1 : (List (Int × (List Int)))), Item.box b3 [v1, (.int .i64 x5)], Item.own v1 (x4 : (List (Int × (List Int)))), Item.box b2 [(.bool a3.1), (.int .i64 a3.2.1), u3], Item.box b1 [u2, (.int .i64 a2.2)], Item.own v17 (x24.2.2.2 : (List Int)), Item.own v15 (x23.2.1 : (List (Int × (List Int)))), Item.own v13 (x22.2 : (List Int)), Item.own v27 (x20.2.2 : (List Int)), Item.own v24 (x18.1 : (List (Int × (List Int)))), Item.own v21 (x16 : (List Int)), Item.box b7 [v20, (.int .i64 x13.1.2)], Item.box b6 [(.bool x12.1), (.int .i64 x12.2.1), v17], Item.box b5 [v15, (.int .i64 x11.2)]] := hC71.front 11 rfl
                              have hC73 : Ctx [] w0 _ [Item.box b7 [v20, (.int .i64 x13.1.2)], Item.own v20 (x13.1.1 : (List (Int × (List Int)))), Item.box b3 [v1, (.int .i64 x5)], Item.own v1 (x4 : (List (Int × (List Int)))), Item.box b2 [(.bool a3.1), (.int .i64 a3.2.1), u3], Item.box b1 [u2, (.int .i64 a2.2)], Item.own v17 (x24.2.2.2 : (List Int)), Item.own v15 (x23.2.1 : (List (Int × (List Int)))), Item.own v13 (x22.2 : (List Int)), Item.own v27 (x20.2.2 : (List Int)), Item.own v24 (x18.1 : (List (Int × (List Int)))), Item.own v21 (x16 : (List Int)), Item.box b6 [(.bool x12.1), (.int .i64 x12.2.1), v17], Item.box b5 [v15, (.int .i64 x11.2)]] := hC72.front 11 rfl
                              have hC74 : Ctx [] w0 _ [Item.box b7 [v20, (.int .i64 x13.1.2)], Item.own v20 (x13.1.1 : (List (Int × (List Int)))), Item.box b3 [v1, (.int .i64 x5)], Item.own v1 (x4 : (List (Int × (List Int)))), Item.box b2 [(.bool a3.1), (.int .i64 a3.2.1), u3], Item.box b1 [u2, (.int .i64 a2.2)]] := hC73.headN 6
                              refine nrm_sub (l' := [(0, u1), (4, (ptr b1 0)), (5, (ptr b2 0)), (8, (ptr b3 0)), (9, (.bool x3)), (13, (ptr b7 0)), (101, (.bool (!decide (x13.2 = x3))))]) ⟨rfl, rfl, rfl, rfl, rfl, rfl, rfl, trivial⟩ ?_
                              exact ⟨(!decide (x13.2 = x3)), rfl, rfl, (Keep.of hB36).below, hC74⟩
                        · rintro _ w42 ⟨x25, rfl, rfl, hB35, hC52⟩
                          try dsimp only at hF
                          refine W_cond rfl (fun hc11 => ?_) (fun hc11 => ?_)
                          · replace hF := ite_t hF hc11
                            refine W_seq_reg ?_
                            refine WL_assign rfl rfl ?_
                            refine WL_nil ?_
                            refine W_ret ?_
                            refine nrm_ret ?_
                            have hq17 := Option.some.inj hF
                            subst hq17
                            refine fn_ret1 rfl rfl ?_
                            exact ⟨_, rfl, bool_res hC52 _⟩
                          · replace hF := ite_f hF hc11
                            refine W_skip ?_
                            refine nrm_normal ?_
                            refine W_seq_reg ?_
                            refine WL_assign rfl rfl ?_
                            refine WL_nil ?_
                            refine W_seq_reg ?_
                            refine WL_load_box_agg [v20, (.int .i64 x13.1.2)] hC52 0 rfl rfl rfl Try.isAgg73 Try.sizeOf73 rfl rfl ?_
                            refine WL_move rfl rfl ?_
                            obtain ⟨x27, hr25, hF⟩ := bind_some hF
                            have hC75 : Ctx [] w0 _ [Item.own v20 (x13.1.1 : (List (Int × (List Int)))), Item.box b7 [v20, (.int .i64 x13.1.2)], Item.box b3 [v1, (.int .i64 x5)], Item.own v1 (x4 : (List (Int × (List Int)))), Item.box b2 [(.bool a3.1), (.int .i64 a3.2.1), u3], Item.box b1 [u2, (.int .i64 a2.2)]] := hC52.front 1 rfl
                            obtain ⟨Fs4, hH4, hn18, hF4, hO4, hb18⟩ := Ctx.lend2 (As := [Item.box b7 [v20, (.int .i64 x13.1.2)], Item.box b3 [v1, (.int .i64 x5)], Item.own v1 (x4 : (List (Int × (List Int)))), Item.box b2 [(.bool a3.1), (.int .i64 a3.2.1), u3], Item.box b1 [u2, (.int .i64 a2.2)]]) [Item.own v20 (x13.1.1 : (List (Int × (List Int))))] hC75
                            refine WL_call Try.call50 rfl rfl (c_Q_markSource (x13.1.1, x13.1.2) v20 1 hH4 hn18 x27 hr25) ?_
                            rintro _ w44 ⟨rfl, hq18⟩
                            have hC76 : Ctx [] w0 w44 [Item.own v20 (x27.2.1 : (List (Int × (List Int)))), Item.box b7 [v20, (.int .i64 x13.1.2)], Item.box b3 [v1, (.int .i64 x5)], Item.own v1 (x4 : (List (Int × (List Int)))), Item.box b2 [(.bool a3.1), (.int .i64 a3.2.1), u3], Item.box b1 [u2, (.int .i64 a2.2)]] := hb18 _ _ hq18
                            refine WL_assign rfl rfl ?_
                            refine WL_nil ?_
                            refine W_seq_reg ?_
                            refine WL_assign rfl rfl ?_
                            refine WL_nil ?_
                            refine W_seq_reg ?_
                            refine WL_load_box_agg [v20, (.int .i64 x13.1.2)] hC76 1 rfl rfl rfl Try.isAgg73 Try.sizeOf73 rfl rfl ?_
                            refine WL_move rfl rfl ?_
                            obtain ⟨x28, hr26, hF⟩ := bind_some hF
                            refine WL_call Try.call52 rfl rfl (c_Q_heldSource (x27.2.1, x13.1.2) v20 ((hC76.ro 0 rfl).now (Keep.refl _ _)) 1 x28 hr26) ?_
                            intro _ w45 hv22
                            obtain ⟨rfl, hB37⟩ := res_int hv22
                            have hC77 := hC76.grow hB37
                            refine WL_assign rfl rfl ?_
                            refine WL_nil ?_
                            refine W_seq ?_
                            refine W_seq_reg ?_
                            refine WL_move rfl rfl ?_
                            refine WL_lss rfl rfl rfl ?_
                            refine WL_nil ?_
                            refine W_cond rfl (fun hc12 => ?_) (fun hc12 => ?_)
                            · replace hF := ite_t hF hc12
                              refine W_seq_reg ?_
                              refine WL_assign rfl rfl ?_
                              refine WL_nil ?_
                              refine W_ret ?_
                              refine nrm_ret ?_
                              have hq19 := Option.some.inj hF
                              subst hq19
                              refine fn_ret1 rfl rfl ?_
                              exact ⟨_, rfl, bool_res hC77 _⟩
                            · replace hF := ite_f hF hc12
                              refine W_skip ?_
                              refine nrm_normal ?_
                              refine W_seq ?_
                              refine W_seq_reg ?_
                              refine WL_move rfl rfl ?_
                              refine WL_move rfl rfl ?_
                              refine WL_neq rfl rfl rfl ?_
                              refine WL_nil ?_
                              refine W_cond rfl (fun hc13 => ?_) (fun hc13 => ?_)
                              · replace hF := ite_t hF hc13
                                refine W_seq_reg ?_
                                refine WL_assign rfl rfl ?_
                                refine WL_nil ?_
                                refine W_ret ?_
                                refine nrm_ret ?_
                                have hq20 := Option.some.inj hF
                                subst hq20
                                refine fn_ret1 rfl rfl ?_
                                exact ⟨_, rfl, bool_res hC77 _⟩
                              · replace hF := ite_f hF hc13
                                refine W_skip ?_
                                refine nrm_normal ?_
                                obtain ⟨r4, hr27, hF⟩ := bind_some hF
                                refine W_cut (fun l w => ∃ x29 : Bool, ∃ b8 : Nat, ∃ v28 : Value, ∃ x30 : (List (Int × (List Int))), ∃ x31 : Int, (x29, x30, x31) = r4 ∧ l = [(8, (ptr b3 0)), (9, (.bool x3)), (13, (ptr b7 0)), (16, (.int .i64 x27.1)), (18, (ptr b8 0)), (19, (.bool x29))] ∧ Ctx [] w0 w [Item.box b8 [v28, (.int .i64 x31)], Item.own v28 (x30 : (List (Int × (List Int)))), Item.own v20 (x27.2.1 : (List (Int × (List Int)))), Item.box b7 [v20, (.int .i64 x13.1.2)], Item.box b3 [v1, (.int .i64 x5)], Item.own v1 (x4 : (List (Int × (List Int))))]) ?_ ?_
                                · refine W_drawn 13 rfl hmix (fun w47 hB39 => ?_)
                                  have hC79 := hC77.grow hB39
                                  refine WA_take 0 rfl (by kernel_rfl) (by kernel_rfl) (by kernel_rfl) rfl (fl_move rfl) ?_
                                  refine WL_move rfl rfl ?_
                                  refine WL_nil ?_
                                  obtain ⟨x32, hr28, hr27⟩ := bind_some hr27
                                  obtain ⟨x33, hr29, hr27⟩ := bind_some hr27
                                  obtain ⟨x34, hr30, hr27⟩ := bind_some hr27
                                  obtain ⟨x35, hr31, hr27⟩ := bind_some hr27
                                  refine WA.sub (l' := [(0, u1), (4, (ptr b1 0)), (5, (ptr b2 0)), (8, (ptr b3 0)), (9, (.bool x3)), (13, (ptr b7 0)), (16, (.int .i64 x27.1)), (17, (.int .i64 x28)), (101, (.bool x25)), (102, (.agg #[v20, (.int .i64 x13.1.2)])), (103, (.int .i64 1)), (104, (.int .i64 x27.1)), (105, (.agg #[v20, (.int .i64 x13.1.2)])), (106, (.int .i64 1)), (107, (.int .i64 x28)), (108, (.int .i64 x28)), (109, (.bool (decide (x28 < 0)))), (110, (.int .i64 x28)), (111, (.int .i64 x27.1)), (112, (.bool (!decide (x28 = x27.1)))), (114, u1)]) ?_ ⟨rfl, rfl, rfl, rfl, rfl, rfl, rfl, rfl, rfl, rfl, rfl, rfl, rfl, rfl, rfl, rfl, rfl, rfl, rfl, rfl, rfl, trivial⟩
                                  refine WA_postsO [⟨1, [], fun vs => PW.own x32, []⟩, ⟨2, [], fun vs => PW.val (.agg #[u2, (.int .i64 a2.2)]), []⟩, ⟨3, [], fun vs => PW.own x33, []⟩, ⟨4, [], fun vs => PW.val (.agg #[(.bool a3.1), (.int .i64 a3.2.1), u3]), []⟩, ⟨5, [], fun vs => PW.own x34, []⟩, ⟨6, [], fun vs => PW.own2 (x35.1 : ((List (Int × (List Int))) × Int)) (x35.2 : Bool), []⟩, ⟨7, [120], fun vs => PW.val (vs.getD 0 undef), []⟩, ⟨8, [113], fun vs => PW.comp (vs.getD 0 undef) 0, []⟩, ⟨9, [113], fun vs => PW.comp (vs.getD 0 undef) 1, []⟩, ⟨10, [], fun vs => PW.box [(.slice none 0 0), (.int .i64 0)], []⟩] [[], [], [2], [], [4], [1, 3, 5], [6], [6, 7], [6, 7], []] [9] 2 rfl (by kernel_rfl) (by kernel_rfl) ?_ ⟨?_, ?_, trivial⟩
                                  · refine StepsE_cons rfl ?_ ?_
                                    · intro w53 hB45
                                      refine DepsE_nil ?_
                                      refine ⟨_, rfl, ?_⟩
                                      refine WL_call Try.call15 rfl rfl (c_Q_toIntS a1 u1 (g1.now (hC79.keep.then hB45)) x32 hr28) ?_
                                      rintro v29 w48 ⟨hB40, F15, hv23, hn19, hb19⟩
                                      refine WL_nil ?_
                                      exact FinE_own hB40 rfl rfl hv23 hn19 hb19 (Val.inh hv23)
                                    refine StepsE_cons rfl ?_ ?_
                                    · intro w53 hB45
                                      refine DepsE_nil ?_
                                      refine ⟨_, rfl, ?_⟩
                                      refine WL_load_box_agg [u2, (.int .i64 a2.2)] (hC79.grow hB45) 5 rfl rfl rfl Try.isAgg65 Try.sizeOf65 rfl rfl ?_
                                      refine WL_nil ?_
                                      exact FinE_val (Below.refl _ _) rfl rfl ⟨rfl, rfl⟩
                                    refine StepsE_cons rfl ?_ ?_
                                    · intro w53 hB45
                                      refine DepsE_cons rfl rfl rfl ?_
                                      rintro _ _ ⟨rfl, rfl⟩ _
                                      refine DepsE_nil ?_
                                      refine ⟨_, rfl, ?_⟩
                                      refine WL_call Try.call44 rfl rfl (c_Q_toSource (a2.1, a2.2) u2 (g2.now (hC79.keep.then hB45)) x33 hr29) ?_
                                      rintro v30 w49 ⟨hB41, F16, hv24, hn20, hb20⟩
                                      refine WL_nil ?_
                                      exact FinE_own hB41 rfl rfl hv24 hn20 hb20 (Val.inh hv24)
                                    refine StepsE_cons rfl ?_ ?_
                                    · intro w53 hB45
                                      refine DepsE_nil ?_
                                      refine ⟨_, rfl, ?_⟩
                                      refine WL_load_box_agg [(.bool a3.1), (.int .i64 a3.2.1), u3] (hC79.grow hB45) 4 rfl rfl rfl Try.isAgg69 Try.sizeOf69 rfl rfl ?_
                                      refine WL_nil ?_
                                      exact FinE_val (Below.refl _ _) rfl rfl ⟨rfl, rfl⟩
                                    refine StepsE_cons rfl ?_ ?_
                                    · intro w53 hB45
                                      refine DepsE_cons rfl rfl rfl ?_
                                      rintro _ _ ⟨rfl, rfl⟩ _
                                      refine DepsE_nil ?_
                                      refine ⟨_, rfl, ?_⟩
                                      refine WL_call Try.call45 rfl rfl (c_Q_toChange (a3.1, (a3.2.1, a3.2.2)) u3 (g3.now (hC79.keep.then hB45)) x34 hr30) ?_
                                      rintro v32 w50 ⟨hB42, F17, hv25, hn21, hb21⟩
                                      refine WL_nil ?_
                                      exact FinE_own hB42 rfl rfl hv25 hn21 hb21 (Val.inh hv25)
                                    refine StepsE_cons rfl ?_ ?_
                                    · intro w53 hB45
                                      refine DepsE_cons rfl rfl rfl ?_
                                      intro v29 F15 hv23 _
                                      refine DepsE_cons rfl rfl rfl ?_
                                      intro v30 F16 hv24 _
                                      obtain ⟨v31, rfl, h6⟩ := ro_st73 (ro_of_own hv24)
                                      refine DepsE_cons rfl rfl rfl ?_
                                      intro v32 F17 hv25 _
                                      obtain ⟨v33, rfl, h7⟩ := ro_st79 (ro_of_own hv25)
                                      refine DepsE_nil ?_
                                      refine ⟨_, rfl, ?_⟩
                                      refine WL_call Try.call46 rfl rfl (c_M_ApplyChange x32 v29 (ro_of_own hv23) x33 v31 (h6.now (Keep.refl _ _)) x34 v33 (h7.now (Keep.refl _ _)) x35 hr31) ?_
                                      rintro _ w51 ⟨hB43, v34, v35, F18, F19, rfl, hv26, hv27, hn22, hb22⟩
                                      refine WL_nil ?_
                                      exact FinE_own (F := F18 ++ F19) hB43 rfl rfl ⟨_, _, _, _, rfl, rfl, hv26, hv27⟩ (by simpa using hn22) (fun b h => hb22 b (by simpa using h)) (fun b h => by simp only [List.mem_append] at h; rcases h with h | h <;> first | exact Val.inh hv26 b h | exact Val.inh hv27 b h)
                                    refine StepsE_cons rfl ?_ ?_
                                    · intro w53 hB45
                                      refine DepsE_cons rfl rfl rfl ?_
                                      rintro _ _ ⟨v34, v35, F18, F19, rfl, rfl, hv26, hv27⟩ _
                                      obtain ⟨rfl, rfl⟩ := val_bool hv27
                                      obtain ⟨v36, rfl, h8⟩ := ro_st73 (ro_of_own hv26)
                                      refine DepsE_nil ?_
                                      refine ⟨_, rfl, ?_⟩
                                      refine WL_move rfl rfl ?_
                                      refine WL_nil ?_
                                      exact FinE_val (Below.refl _ _) rfl rfl ⟨rfl, rfl⟩
                                    refine StepsE_cons rfl ?_ ?_
                                    · intro w53 hB45
                                      refine DepsE_cons rfl rfl rfl ?_
                                      rintro _ _ ⟨v34, v35, F18, F19, rfl, rfl, hv26, hv27⟩ _
                                      obtain ⟨rfl, rfl⟩ := val_bool hv27
                                      obtain ⟨v36, rfl, h8⟩ := ro_st73 (ro_of_own hv26)
                                      refine DepsE_cons rfl rfl rfl ?_
                                      rintro _ _ ⟨rfl, rfl⟩ _
                                      refine DepsE_nil ?_
                                      refine ⟨_, rfl, ?_⟩
                                      refine WL_extract rfl rfl rfl ?_
                                      refine WL_nil ?_
                                      exact FinE_val (Below.refl _ _) rfl rfl ⟨⟨_, rfl, rfl⟩, rfl⟩
                                    refine StepsE_cons rfl ?_ ?_
                                    · intro w53 hB45
                                      refine DepsE_cons rfl rfl rfl ?_
                                      rintro _ _ ⟨v34, v35, F18, F19, rfl, rfl, hv26, hv27⟩ _
                                      obtain ⟨rfl, rfl⟩ := val_bool hv27
                                      obtain ⟨v36, rfl, h8⟩ := ro_st73 (ro_of_own hv26)
                                      refine DepsE_cons rfl rfl rfl ?_
                                      rintro _ _ ⟨rfl, rfl⟩ _
                                      refine DepsE_nil ?_
                                      refine ⟨_, rfl, ?_⟩
                                      refine WL_extract rfl rfl rfl ?_
                                      refine WL_nil ?_
                                      exact FinE_val (Below.refl _ _) rfl rfl ⟨⟨_, rfl, rfl⟩, rfl⟩
                                    refine StepsE_cons rfl ?_ ?_
                                    · intro w53 hB45
                                      refine DepsE_nil ?_
                                      refine ⟨_, rfl, ?_⟩
                                      refine WL_alloc (Ctx.start _) zero73 rfl rfl (fun b9 w52 hC80 hB44 => ?_)
                                      refine WL_nil ?_
                                      exact FinE_ctx hC80 rfl rfl (fun F h => ⟨b9, rfl, h⟩)
                                    exact StepsE_nil
                                  · intro g' hg'
                                    obtain rfl : g' = 2 := hg'
                                    intro w54 hB46
                                    refine AllE_cons rfl rfl rfl ?_
                                    intro v29 F15 hv23
                                    refine AllE_cons rfl rfl rfl ?_
                                    rintro _ _ ⟨rfl, rfl⟩
                                    refine AllE_cons rfl rfl rfl ?_
                                    intro v30 F16 hv24
                                    refine AllE_cons rfl rfl rfl ?_
                                    rintro _ _ ⟨rfl, rfl⟩
                                    refine AllE_cons rfl rfl rfl ?_
                                    intro v32 F17 hv25
                                    refine AllE_cons rfl rfl rfl ?_
                                    rintro _ _ ⟨v34, v35, F18, F19, rfl, rfl, hv26, hv27⟩
                                    obtain ⟨rfl, rfl⟩ := val_bool hv27
                                    refine AllE_cons rfl rfl rfl ?_
                                    rintro _ _ ⟨rfl, rfl⟩
                                    refine AllE_cons rfl rfl rfl ?_
                                    rintro _ _ ⟨⟨_, hx5, hx6⟩, rfl⟩
                                    obtain rfl := Value.tuple.inj hx5
                                    obtain rfl := Option.some.inj (show (some v34 : Option Value) = some _ from hx6)
                                    refine AllE_cons rfl rfl rfl ?_
                                    rintro _ _ ⟨⟨_, hx7, hx8⟩, rfl⟩
                                    obtain rfl := Value.tuple.inj hx7
                                    obtain rfl := Option.some.inj (show (some (.bool x35.2) : Option Value) = some _ from hx8)
                                    refine AllE_cons rfl rfl rfl ?_
                                    rintro _ F20 ⟨b9, rfl, hv28⟩
                                    refine AllE_nil ?_
                                    intro hn23 hb23
                                    have hC81 := hC79.pushL hB46 (Bs := [Item.box b9 [(.slice none 0 0), (.int .i64 0)], Item.own v34 (x35.1 : ((List (Int × (List Int))) × Int)), Item.own v32 (x34 : (Bool × (Int × (List Int)))), Item.own v30 (x33 : ((List (Int × (List Int))) × Int)), Item.own v29 (x32 : (List Int))]) (Fs := [F20, F18, F17, F16, F15]) ⟨F20, _, rfl, hv28, F18, _, rfl, hv26, F17, _, rfl, hv25, F16, _, rfl, hv24, F15, _, rfl, hv23, rfl⟩ (by simpa using hn23) (fun b h => (hb23 b (by simpa using h)).1)
                                    have hC82 : Ctx [] w0 _ [Item.own v30 (x33 : ((List (Int × (List Int))) × Int)), Item.box b9 [(.slice none 0 0), (.int .i64 0)], Item.own v34 (x35.1 : ((List (Int × (List Int))) × Int)), Item.own v32 (x34 : (Bool × (Int × (List Int)))), Item.own v29 (x32 : (List Int)), Item.own v20 (x27.2.1 : (List (Int × (List Int)))), Item.box b7 [v20, (.int .i64 x13.1.2)], Item.box b3 [v1, (.int .i64 x5)], Item.own v1 (x4 : (List (Int × (List Int)))), Item.box b2 [(.bool a3.1), (.int .i64 a3.2.1), u3], Item.box b1 [u2, (.int .i64 a2.2)]] := hC81.front 3 rfl
                                    obtain ⟨v37, rfl, hC83⟩ := st73_own hC82
                                    have hC84 : Ctx [] w0 _ [Item.own v32 (x34 : (Bool × (Int × (List Int)))), Item.own v37 (x33.1 : (List (Int × (List Int)))), Item.box b9 [(.slice none 0 0), (.int .i64 0)], Item.own v34 (x35.1 : ((List (Int × (List Int))) × Int)), Item.own v29 (x32 : (List Int)), Item.own v20 (x27.2.1 : (List (Int × (List Int)))), Item.box b7 [v20, (.int .i64 x13.1.2)], Item.box b3 [v1, (.int .i64 x5)], Item.own v1 (x4 : (List (Int × (List Int)))), Item.box b2 [(.bool a3.1), (.int .i64 a3.2.1), u3], Item.box b1 [u2, (.int .i64 a2.2)]] := hC83.front 3 rfl
                                    obtain ⟨v38, rfl, hC85⟩ := st79_own hC84
                                    have hC86 : Ctx [] w0 _ [Item.own v34 (x35.1 : ((List (Int × (List Int))) × Int)), Item.own v38 (x34.2.2 : (List Int)), Item.own v37 (x33.1 : (List (Int × (List Int)))), Item.box b9 [(.slice none 0 0), (.int .i64 0)], Item.own v29 (x32 : (List Int)), Item.own v20 (x27.2.1 : (List (Int × (List Int)))), Item.box b7 [v20, (.int .i64 x13.1.2)], Item.box b3 [v1, (.int .i64 x5)], Item.own v1 (x4 : (List (Int × (List Int)))), Item.box b2 [(.bool a3.1), (.int .i64 a3.2.1), u3], Item.box b1 [u2, (.int .i64 a2.2)]] := hC85.front 3 rfl
                                    obtain ⟨v39, rfl, hC87⟩ := st73_own hC86
                                    refine WA_one 11 (by kernel_rfl) rfl ?_
                                    refine WL_store_box_agg (cs' := [v39, (.int .i64 x35.1.2)]) (new := [v39, (.int .i64 x35.1.2)]) hC87 3 rfl rfl (by intro v hv; simp only [List.mem_cons, List.not_mem_nil, or_false] at hv; rcases hv with rfl | rfl; exact (ro_one (hC87.ro 0 rfl)); exact rfl) rfl Try.sizeOf73 rfl rfl (fun w55 hC88 => ?_)
                                    try dsimp only [List.set] at hC88
                                    refine WL_nil ?_
                                    refine WA_take 12 rfl (by kernel_rfl) (by kernel_rfl) (by kernel_rfl) rfl (fl_assign rfl) ?_
                                    refine WL_assign rfl rfl ?_
                                    refine WL_nil ?_
                                    refine WA_done (by kernel_rfl) ?_
                                    have hq21 := Option.some.inj hr27
                                    subst hq21
                                    have hC89 : Ctx [] w0 _ [Item.own v1 (x4 : (List (Int × (List Int)))), Item.own v39 (x35.1.1 : (List (Int × (List Int)))), Item.own v38 (x34.2.2 : (List Int)), Item.own v37 (x33.1 : (List (Int × (List Int)))), Item.box b9 [v39, (.int .i64 x35.1.2)], Item.own v29 (x32 : (List Int)), Item.own v20 (x27.2.1 : (List (Int × (List Int)))), Item.box b7 [v20, (.int .i64 x13.1.2)], Item.box b3 [v1, (.int .i64 x5)], Item.box b2 [(.bool a3.1), (.int .i64 a3.2.1), u3], Item.box b1 [u2, (.int .i64 a2.2)]] := hC88.front 8 rfl
                                    have hC90 : Ctx [] w0 _ [Item.box b3 [v1, (.int .i64 x5)], Item.own v1 (x4 : (List (Int × (List Int)))), Item.own v39 (x35.1.1 : (List (Int × (List Int)))), Item.own v38 (x34.2.2 : (List Int)), Item.own v37 (x33.1 : (List (Int × (List Int)))), Item.box b9 [v39, (.int .i64 x35.1.2)], Item.own v29 (x32 : (List Int)), Item.own v20 (x27.2.1 : (List (Int × (List Int)))), Item.box b7 [v20, (.int .i64 x13.1.2)], Item.box b2 [(.bool a3.1), (.int .i64 a3.2.1), u3], Item.box b1 [u2, (.int .i64 a2.2)]] := hC89.front 8 rfl
                                    have hC91 : Ctx [] w0 _ [Item.box b7 [v20, (.int .i64 x13.1.2)], Item.box b3 [v1, (.int .i64 x5)], Item.own v1 (x4 : (List (Int × (List Int)))), Item.own v39 (x35.1.1 : (List (Int × (List Int)))), Item.own v38 (x34.2.2 : (List Int)), Item.own v37 (x33.1 : (List (Int × (List Int)))), Item.box b9 [v39, (.int .i64 x35.1.2)], Item.own v29 (x32 : (List Int)), Item.own v20 (x27.2.1 : (List (Int × (List Int)))), Item.box b2 [(.bool a3.1), (.int .i64 a3.2.1), u3], Item.box b1 [u2, (.int .i64 a2.2)]] := hC90.front 8 rfl
                                    have hC92 : Ctx [] w0 _ [Item.own v20 (x27.2.1 : (List (Int × (List Int)))), Item.box b7 [v20, (.int .i64 x13.1.2)], Item.box b3 [v1, (.int .i64 x5)], Item.own v1 (x4 : (List (Int × (List Int)))), Item.own v39 (x35.1.1 : (List (Int × (List Int)))), Item.own v38 (x34.2.2 : (List Int)), Item.own v37 (x33.1 : (List (Int × (List Int)))), Item.box b9 [v39, (.int .i64 x35.1.2)], Item.own v29 (x32 : (List Int)), Item.box b2 [(.bool a3.1), (.int .i64 a3.2.1), u3], Item.box b1 [u2, (.int .i64 a2.2)]] := hC91.front 8 rfl
                                    have hC93 : Ctx [] w0 _ [Item.own v39 (x35.1.1 : (List (Int × (List Int)))), Item.own v20 (x27.2.1 : (List (Int × (List Int)))), Item.box b7 [v20, (.int .i64 x13.1.2)], Item.box b3 [v1, (.int .i64 x5)], Item.own v1 (x4 : (List (Int × (List Int)))), Item.own v38 (x34.2.2 : (List Int)), Item.own v37 (x33.1 : (List (Int × (List Int)))), Item.box b9 [v39, (.int .i64 x35.1.2)], Item.own v29 (x32 : (List Int)), Item.box b2 [(.bool a3.1), (.int .i64 a3.2.1), u3], Item.box b1 [u2, (.int .i64 a2.2)]] := hC92.front 4 rfl
                                    have hC94 : Ctx [] w0 _ [Item.box b9 [v39, (.int .i64 x35.1.2)], Item.own v39 (x35.1.1 : (List (Int × (List Int)))), Item.own v20 (x27.2.1 : (List (Int × (List Int)))), Item.box b7 [v20, (.int .i64 x13.1.2)], Item.box b3 [v1, (.int .i64 x5)], Item.own v1 (x4 : (List (Int × (List Int)))), Item.own v38 (x34.2.2 : (List Int)), Item.own v37 (x33.1 : (List (Int × (List Int)))), Item.own v29 (x32 : (List Int)), Item.box b2 [(.bool a3.1), (.int .i64 a3.2.1), u3], Item.box b1 [u2, (.int .i64 a2.2)]] := hC93.front 7 rfl
                                    have hC95 : Ctx [] w0 _ [Item.box b9 [v39, (.int .i64 x35.1.2)], Item.own v39 (x35.1.1 : (List (Int × (List Int)))), Item.own v20 (x27.2.1 : (List (Int × (List Int)))), Item.box b7 [v20, (.int .i64 x13.1.2)], Item.box b3 [v1, (.int .i64 x5)], Item.own v1 (x4 : (List (Int × (List Int))))] := hC94.headN 6
                                    refine nrm_sub (l' := [(8, (ptr b3 0)), (9, (.bool x3)), (13, (ptr b7 0)), (16, (.int .i64 x27.1)), (18, (ptr b9 0)), (19, (.bool x35.2))]) ⟨rfl, rfl, rfl, rfl, rfl, rfl, trivial⟩ ?_
                                    exact ⟨x35.2, b9, v39, x35.1.1, x35.1.2, rfl, rfl, hC95⟩
                                  · intro g' hg'
                                    obtain rfl : g' = 3 := hg'
                                    intro w54 hB46
                                    refine AllE_cons rfl rfl rfl ?_
                                    intro v29 F15 hv23
                                    refine AllE_cons rfl rfl rfl ?_
                                    rintro _ _ ⟨rfl, rfl⟩
                                    refine AllE_cons rfl rfl rfl ?_
                                    intro v30 F16 hv24
                                    refine AllE_cons rfl rfl rfl ?_
                                    rintro _ _ ⟨rfl, rfl⟩
                                    refine AllE_cons rfl rfl rfl ?_
                                    intro v32 F17 hv25
                                    refine AllE_cons rfl rfl rfl ?_
                                    rintro _ _ ⟨v34, v35, F18, F19, rfl, rfl, hv26, hv27⟩
                                    obtain ⟨rfl, rfl⟩ := val_bool hv27
                                    refine AllE_cons rfl rfl rfl ?_
                                    rintro _ _ ⟨rfl, rfl⟩
                                    refine AllE_cons rfl rfl rfl ?_
                                    rintro _ _ ⟨⟨_, hx5, hx6⟩, rfl⟩
                                    obtain rfl := Value.tuple.inj hx5
                                    obtain rfl := Option.some.inj (show (some v34 : Option Value) = some _ from hx6)
                                    refine AllE_cons rfl rfl rfl ?_
                                    rintro _ F20 ⟨b9, rfl, hv28⟩
                                    refine AllE_nil ?_
                                    intro hn23 hb23
                                    have hC81 := hC79.pushL hB46 (Bs := [Item.box b9 [(.slice none 0 0), (.int .i64 0)], Item.own v34 (x35.1 : ((List (Int × (List Int))) × Int)), Item.own v32 (x34 : (Bool × (Int × (List Int)))), Item.own v30 (x33 : ((List (Int × (List Int))) × Int)), Item.own v29 (x32 : (List Int))]) (Fs := [F20, F18, F17, F16, F15]) ⟨F20, _, rfl, hv28, F18, _, rfl, hv26, F17, _, rfl, hv25, F16, _, rfl, hv24, F15, _, rfl, hv23, rfl⟩ (by simpa using hn23) (fun b h => (hb23 b (by simpa using h)).1)
                                    have hC82 : Ctx [] w0 _ [Item.own v30 (x33 : ((List (Int × (List Int))) × Int)), Item.box b9 [(.slice none 0 0), (.int .i64 0)], Item.own v34 (x35.1 : ((List (Int × (List Int))) × Int)), Item.own v32 (x34 : (Bool × (Int × (List Int)))), Item.own v29 (x32 : (List Int)), Item.own v20 (x27.2.1 : (List (Int × (List Int)))), Item.box b7 [v20, (.int .i64 x13.1.2)], Item.box b3 [v1, (.int .i64 x5)], Item.own v1 (x4 : (List (Int × (List Int)))), Item.box b2 [(.bool a3.1), (.int .i64 a3.2.1), u3], Item.box b1 [u2, (.int .i64 a2.2)]] := hC81.front 3 rfl
                                    obtain ⟨v37, rfl, hC83⟩ := st73_own hC82
                                    have hC84 : Ctx [] w0 _ [Item.own v32 (x34 : (Bool × (Int × (List Int)))), Item.own v37 (x33.1 : (List (Int × (List Int)))), Item.box b9 [(.slice none 0 0), (.int .i64 0)], Item.own v34 (x35.1 : ((List (Int × (List Int))) × Int)), Item.own v29 (x32 : (List Int)), Item.own v20 (x27.2.1 : (List (Int × (List Int)))), Item.box b7 [v20, (.int .i64 x13.1.2)], Item.box b3 [v1, (.int .i64 x5)], Item.own v1 (x4 : (List (Int × (List Int)))), Item.box b2 [(.bool a3.1), (.int .i64 a3.2.1), u3], Item.box b1 [u2, (.int .i64 a2.2)]] := hC83.front 3 rfl
                                    obtain ⟨v38, rfl, hC85⟩ := st79_own hC84
                                    have hC86 : Ctx [] w0 _ [Item.own v34 (x35.1 : ((List (Int × (List Int))) × Int)), Item.own v38 (x34.2.2 : (List Int)), Item.own v37 (x33.1 : (List (Int × (List Int)))), Item.box b9 [(.slice none 0 0), (.int .i64 0)], Item.own v29 (x32 : (List Int)), Item.own v20 (x27.2.1 : (List (Int × (List Int)))), Item.box b7 [v20, (.int .i64 x13.1.2)], Item.box b3 [v1, (.int .i64 x5)], Item.own v1 (x4 : (List (Int × (List Int)))), Item.box b2 [(.bool a3.1), (.int .i64 a3.2.1), u3], Item.box b1 [u2, (.int .i64 a2.2)]] := hC85.front 3 rfl
                                    obtain ⟨v39, rfl, hC87⟩ := st73_own hC86
                                    refine WA_take 9 rfl (by kernel_rfl) (by kernel_rfl) (by kernel_rfl) rfl (fl_extract rfl rfl) ?_
                                    refine WL_extract rfl rfl rfl ?_
                                    refine WL_nil ?_
                                    refine WA_one 11 (by kernel_rfl) rfl ?_
                                    refine WL_store_box_agg (cs' := [v39, (.int .i64 x35.1.2)]) (new := [v39, (.int .i64 x35.1.2)]) hC87 3 rfl rfl (by intro v hv; simp only [List.mem_cons, List.not_mem_nil, or_false] at hv; rcases hv with rfl | rfl; exact (ro_one (hC87.ro 0 rfl)); exact rfl) rfl Try.sizeOf73 rfl rfl (fun w55 hC88 => ?_)
                                    try dsimp only [List.set] at hC88
                                    refine WL_nil ?_
                                    refine WA_take 12 rfl (by kernel_rfl) (by kernel_rfl) (by kernel_rfl) rfl (fl_assign rfl) ?_
                                    refine WL_assign rfl rfl ?_
                                    refine WL_nil ?_
                                    refine WA_done (by kernel_rfl) ?_
                                    have hq21 := Option.some.inj hr27
                                    subst hq21
                                    have hC89 : Ctx [] w0 _ [Item.own v1 (x4 : (List (Int × (List Int)))), Item.own v39 (x35.1.1 : (List (Int × (List Int)))), Item.own v38 (x34.2.2 : (List Int)), Item.own v37 (x33.1 : (List (Int × (List Int)))), Item.box b9 [v39, (.int .i64 x35.1.2)], Item.own v29 (x32 : (List Int)), Item.own v20 (x27.2.1 : (List (Int × (List Int)))), Item.box b7 [v20, (.int .i64 x13.1.2)], Item.box b3 [v1, (.int .i64 x5)], Item.box b2 [(.bool a3.1), (.int .i64 a3.2.1), u3], Item.box b1 [u2, (.int .i64 a2.2)]] := hC88.front 8 rfl
                                    have hC90 : Ctx [] w0 _ [Item.box b3 [v1, (.int .i64 x5)], Item.own v1 (x4 : (List (Int × (List Int)))), Item.own v39 (x35.1.1 : (List (Int × (List Int)))), Item.own v38 (x34.2.2 : (List Int)), Item.own v37 (x33.1 : (List (Int × (List Int)))), Item.box b9 [v39, (.int .i64 x35.1.2)], Item.own v29 (x32 : (List Int)), Item.own v20 (x27.2.1 : (List (Int × (List Int)))), Item.box b7 [v20, (.int .i64 x13.1.2)], Item.box b2 [(.bool a3.1), (.int .i64 a3.2.1), u3], Item.box b1 [u2, (.int .i64 a2.2)]] := hC89.front 8 rfl
                                    have hC91 : Ctx [] w0 _ [Item.box b7 [v20, (.int .i64 x13.1.2)], Item.box b3 [v1, (.int .i64 x5)], Item.own v1 (x4 : (List (Int × (List Int)))), Item.own v39 (x35.1.1 : (List (Int × (List Int)))), Item.own v38 (x34.2.2 : (List Int)), Item.own v37 (x33.1 : (List (Int × (List Int)))), Item.box b9 [v39, (.int .i64 x35.1.2)], Item.own v29 (x32 : (List Int)), Item.own v20 (x27.2.1 : (List (Int × (List Int)))), Item.box b2 [(.bool a3.1), (.int .i64 a3.2.1), u3], Item.box b1 [u2, (.int .i64 a2.2)]] := hC90.front 8 rfl
                                    have hC92 : Ctx [] w0 _ [Item.own v20 (x27.2.1 : (List (Int × (List Int)))), Item.box b7 [v20, (.int .i64 x13.1.2)], Item.box b3 [v1, (.int .i64 x5)], Item.own v1 (x4 : (List (Int × (List Int)))), Item.own v39 (x35.1.1 : (List (Int × (List Int)))), Item.own v38 (x34.2.2 : (List Int)), Item.own v37 (x33.1 : (List (Int × (List Int)))), Item.box b9 [v39, (.int .i64 x35.1.2)], Item.own v29 (x32 : (List Int)), Item.box b2 [(.bool a3.1), (.int .i64 a3.2.1), u3], Item.box b1 [u2, (.int .i64 a2.2)]] := hC91.front 8 rfl
                                    have hC93 : Ctx [] w0 _ [Item.own v39 (x35.1.1 : (List (Int × (List Int)))), Item.own v20 (x27.2.1 : (List (Int × (List Int)))), Item.box b7 [v20, (.int .i64 x13.1.2)], Item.box b3 [v1, (.int .i64 x5)], Item.own v1 (x4 : (List (Int × (List Int)))), Item.own v38 (x34.2.2 : (List Int)), Item.own v37 (x33.1 : (List (Int × (List Int)))), Item.box b9 [v39, (.int .i64 x35.1.2)], Item.own v29 (x32 : (List Int)), Item.box b2 [(.bool a3.1), (.int .i64 a3.2.1), u3], Item.box b1 [u2, (.int .i64 a2.2)]] := hC92.front 4 rfl
                                    have hC94 : Ctx [] w0 _ [Item.box b9 [v39, (.int .i64 x35.1.2)], Item.own v39 (x35.1.1 : (List (Int × (List Int)))), Item.own v20 (x27.2.1 : (List (Int × (List Int)))), Item.box b7 [v20, (.int .i64 x13.1.2)], Item.box b3 [v1, (.int .i64 x5)], Item.own v1 (x4 : (List (Int × (List Int)))), Item.own v38 (x34.2.2 : (List Int)), Item.own v37 (x33.1 : (List (Int × (List Int)))), Item.own v29 (x32 : (List Int)), Item.box b2 [(.bool a3.1), (.int .i64 a3.2.1), u3], Item.box b1 [u2, (.int .i64 a2.2)]] := hC93.front 7 rfl
                                    have hC95 : Ctx [] w0 _ [Item.box b9 [v39, (.int .i64 x35.1.2)], Item.own v39 (x35.1.1 : (List (Int × (List Int)))), Item.own v20 (x27.2.1 : (List (Int × (List Int)))), Item.box b7 [v20, (.int .i64 x13.1.2)], Item.box b3 [v1, (.int .i64 x5)], Item.own v1 (x4 : (List (Int × (List Int))))] := hC94.headN 6
                                    refine nrm_sub (l' := [(8, (ptr b3 0)), (9, (.bool x3)), (13, (ptr b7 0)), (16, (.int .i64 x27.1)), (18, (ptr b9 0)), (19, (.bool x35.2))]) ⟨rfl, rfl, rfl, rfl, rfl, rfl, trivial⟩ ?_
                                    exact ⟨x35.2, b9, v39, x35.1.1, x35.1.2, rfl, rfl, hC95⟩
                                · rintro _ w46 ⟨x29, b8, v28, x30, x31, rfl, rfl, hC78⟩
                                  try dsimp only at hF
                                  refine W_seq ?_
                                  obtain ⟨r5, hr32, hF⟩ := bind_some hF
                                  refine W_cut (fun l w => ∃ x36 : Bool, x36 = r5 ∧ l = [(13, (ptr b7 0)), (16, (.int .i64 x27.1)), (131, (.bool x36))] ∧ Below w46.heap.size w46 w ∧ Ctx [] w0 w [Item.own v20 (x27.2.1 : (List (Int × (List Int)))), Item.box b7 [v20, (.int .i64 x13.1.2)]]) ?_ ?_
                                  · refine W_reg ?_
                                    refine WL_load_box_agg [v28, (.int .i64 x31)] hC78 0 rfl rfl rfl Try.isAgg73 Try.sizeOf73 rfl rfl ?_
                                    refine WL_load_box_agg [v1, (.int .i64 x5)] hC78 4 rfl rfl rfl Try.isAgg73 Try.sizeOf73 rfl rfl ?_
                                    obtain ⟨x37, hr33, hr32⟩ := bind_some hr32
                                    refine WL_call Try.call47 rfl rfl (c_Q_eqSource (x30, x31) v28 ((hC78.ro 1 rfl).now (Keep.refl _ _)) (x4, x5) v1 ((hC78.ro 5 rfl).now (Keep.refl _ _)) x37 hr33) ?_
                                    intro _ w57 hv29
                                    obtain ⟨rfl, hB48⟩ := res_bool hv29
                                    have hC97 := hC78.grow hB48
                                    refine WL_not rfl rfl ?_
                                    refine WL_move rfl rfl ?_
                                    refine WL_fork (fun hc14 => ?_) (fun hc14 => ?_)
                                    · replace hr32 := ite_t hr32 hc14
                                      refine WL_guard_skip rfl rfl (by simp) rfl ?_
                                      refine WL_guard_skip rfl rfl (by simp) rfl ?_
                                      refine WL_guard_skip rfl rfl (by simp) rfl ?_
                                      refine WL_pick_t rfl rfl rfl ?_
                                      refine WL_nil ?_
                                      have hq22 := Option.some.inj hr32
                                      subst hq22
                                      have hC98 : Ctx [] w0 _ [Item.box b7 [v20, (.int .i64 x13.1.2)], Item.box b8 [v28, (.int .i64 x31)], Item.own v28 (x30 : (List (Int × (List Int)))), Item.own v20 (x27.2.1 : (List (Int × (List Int)))), Item.box b3 [v1, (.int .i64 x5)], Item.own v1 (x4 : (List (Int × (List Int))))] := hC97.front 3 rfl
                                      have hC99 : Ctx [] w0 _ [Item.own v20 (x27.2.1 : (List (Int × (List Int)))), Item.box b7 [v20, (.int .i64 x13.1.2)], Item.box b8 [v28, (.int .i64 x31)], Item.own v28 (x30 : (List (Int × (List Int)))), Item.box b3 [v1, (.int .i64 x5)], Item.own v1 (x4 : (List (Int × (List Int))))] := hC98.front 3 rfl
                                      have hC100 : Ctx [] w0 _ [Item.own v20 (x27.2.1 : (List (Int × (List Int)))), Item.box b7 [v20, (.int .i64 x13.1.2)]] := hC99.headN 2
                                      refine nrm_sub (l' := [(13, (ptr b7 0)), (16, (.int .i64 x27.1)), (131, (.bool true))]) ⟨rfl, rfl, rfl, trivial⟩ ?_
                                      exact ⟨true, rfl, rfl, (Keep.of hB48).below, hC100⟩
                                    · replace hr32 := ite_f hr32 hc14
                                      refine WL_guard rfl rfl ?_
                                      refine WL_move rfl rfl ?_
                                      refine WL_guard rfl rfl ?_
                                      refine WL_move rfl rfl ?_
                                      refine WL_guard rfl rfl ?_
                                      refine WL_bool_neq Try.underlying4 rfl rfl rfl ?_
                                      refine WL_pick_f rfl rfl rfl ?_
                                      refine WL_nil ?_
                                      have hq23 := Option.some.inj hr32
                                      subst hq23
                                      have hC101 : Ctx [] w0 _ [Item.box b7 [v20, (.int .i64 x13.1.2)], Item.box b8 [v28, (.int .i64 x31)], Item.own v28 (x30 : (List (Int × (List Int)))), Item.own v20 (x27.2.1 : (List (Int × (List Int)))), Item.box b3 [v1, (.int .i64 x5)], Item.own v1 (x4 : (List (Int × (List Int))))] := hC97.front 3 rfl
                                      have hC102 : Ctx [] w0 _ [Item.own v20 (x27.2.1 : (List (Int × (List Int)))), Item.box b7 [v20, (.int .i64 x13.1.2)], Item.box b8 [v28, (.int .i64 x31)], Item.own v28 (x30 : (List (Int × (List Int)))), Item.box b3 [v1, (.int .i64 x5)], Item.own v1 (x4 : (List (Int × (List Int))))] := hC101.front 3 rfl
                                      have hC103 : Ctx [] w0 _ [Item.own v20 (x27.2.1 : (List (Int × (List Int)))), Item.box b7 [v20, (.int .i64 x13.1.2)]] := hC102.headN 2
                                      refine nrm_sub (l' := [(13, (ptr b7 0)), (16, (.int .i64 x27.1)), (131, (.bool (!decide (x29 = x3))))]) ⟨rfl, rfl, rfl, trivial⟩ ?_
                                      exact ⟨(!decide (x29 = x3)), rfl, rfl, (Keep.of hB48).below, hC103⟩
                                  · rintro _ w56 ⟨x36, rfl, rfl, hB47, hC96⟩
                                    try dsimp only at hF
                                    refine W_cond rfl (fun hc15 => ?_) (fun hc15 => ?_)
                                    · replace hF := ite_t hF hc15
                                      refine W_seq_reg ?_
                                      refine WL_assign rfl rfl ?_
                                      refine WL_nil ?_
                                      refine W_ret ?_
                                      refine nrm_ret ?_
                                      have hq24 := Option.some.inj hF
                                      subst hq24
                                      refine fn_ret1 rfl rfl ?_
                                      exact ⟨_, rfl, bool_res hC96 _⟩
                                    · replace hF := ite_f hF hc15
                                      refine W_skip ?_
                                      refine nrm_normal ?_
                                      refine W_seq_reg ?_
                                      refine WL_assign rfl rfl ?_
                                      refine WL_nil ?_
                                      refine W_seq_reg ?_
                                      refine WL_load_box_agg [v20, (.int .i64 x13.1.2)] hC96 1 rfl rfl rfl Try.isAgg73 Try.sizeOf73 rfl rfl ?_
                                      refine WL_move rfl rfl ?_
                                      obtain ⟨x38, hr34, hF⟩ := bind_some hF
                                      refine WL_call Try.call52 rfl rfl (c_Q_heldSource (x27.2.1, x13.1.2) v20 ((hC96.ro 0 rfl).now (Keep.refl _ _)) 1 x38 hr34) ?_
                                      intro _ w58 hv30
                                      obtain ⟨rfl, hB49⟩ := res_int hv30
                                      have hC104 := hC96.grow hB49
                                      refine WL_assign rfl rfl ?_
                                      refine WL_nil ?_
                                      refine W_seq ?_
                                      refine W_seq_reg ?_
                                      refine WL_move rfl rfl ?_
                                      refine WL_lss rfl rfl rfl ?_
                                      refine WL_nil ?_
                                      refine W_cond rfl (fun hc16 => ?_) (fun hc16 => ?_)
                                      · replace hF := ite_t hF hc16
                                        refine W_seq_reg ?_
                                        refine WL_assign rfl rfl ?_
                                        refine WL_nil ?_
                                        refine W_ret ?_
                                        refine nrm_ret ?_
                                        have hq25 := Option.some.inj hF
                                        subst hq25
                                        refine fn_ret1 rfl rfl ?_
                                        exact ⟨_, rfl, bool_res hC104 _⟩
                                      · replace hF := ite_f hF hc16
                                        refine W_skip ?_
                                        refine nrm_normal ?_
                                        refine W_seq ?_
                                        refine W_seq_reg ?_
                                        refine WL_move rfl rfl ?_
                                        refine WL_move rfl rfl ?_
                                        refine WL_neq rfl rfl rfl ?_
                                        refine WL_nil ?_
                                        refine W_cond rfl (fun hc17 => ?_) (fun hc17 => ?_)
                                        · replace hF := ite_t hF hc17
                                          refine W_seq_reg ?_
                                          refine WL_assign rfl rfl ?_
                                          refine WL_nil ?_
                                          refine W_ret ?_
                                          refine nrm_ret ?_
                                          have hq26 := Option.some.inj hF
                                          subst hq26
                                          refine fn_ret1 rfl rfl ?_
                                          exact ⟨_, rfl, bool_res hC104 _⟩
                                        · replace hF := ite_f hF hc17
                                          refine W_skip ?_
                                          refine nrm_normal ?_
                                          refine W_seq_reg ?_
                                          refine WL_assign rfl rfl ?_
                                          refine WL_nil ?_
                                          refine W_ret ?_
                                          have hq27 := Option.some.inj hF
                                          subst hq27
                                          refine fn_ret1 rfl rfl ?_
                                          exact ⟨_, rfl, bool_res hC104 _⟩

theorem c_Q_szChangeS {w0 : World} (a1 : (List (Bool × (Int × (List Int))))) (u1 : Value) (g1 : RO [] w0 u1 a1) (a2 : Int) (rr : Int) (hF : Q.szChangeS a1 a2 = some rr) :
    Calls Try.prog 53 [u1, (.int .i64 a2)].toArray w0 fun e w' => ∃ v, e = .returned v ∧ Res w0 rr v w' := by
  refine calls_of_W Try.func53 rfl rfl ?_
  have hC0 := Ctx.start w0
  unfold Q.szChangeS at hF
  refine W_seq_reg ?_
  refine WL_assign rfl rfl ?_
  refine WL_nil ?_
  refine W_seq_reg ?_
  refine WL_move rfl rfl ?_
  refine WL_move rfl rfl ?_
  refine WL_len Try.underlying87 g1 rfl rfl ?_
  refine WL_sub rfl rfl rfl ?_
  refine WL_assign rfl rfl ?_
  refine WL_nil ?_
  refine W_seq ?_
  refine W_seq_reg ?_
  refine WL_move rfl rfl ?_
  refine WL_lss rfl rfl rfl ?_
  refine WL_nil ?_
  refine W_cond rfl (fun hc1 => ?_) (fun hc1 => ?_)
  · replace hF := ite_t hF hc1
    refine W_seq_reg ?_
    refine WL_assign rfl rfl ?_
    refine WL_nil ?_
    refine W_ret ?_
    refine nrm_ret ?_
    have hq1 := Option.some.inj hF
    subst hq1
    refine fn_ret1 rfl rfl ?_
    exact ⟨_, rfl, int_res hC0 _⟩
  · replace hF := ite_f hF hc1
    refine W_skip ?_
    refine nrm_normal ?_
    refine W_seq ?_
    refine W_seq_reg ?_
    refine WL_assign rfl rfl ?_
    refine WL_nil ?_
    obtain ⟨r1, hr1, hF⟩ := bind_some hF
    refine W_norm (fun l w => ∃ x3 : Int, .inl x3 = r1 ∧ l = [(1, (.int .i64 x3))] ∧ Below w0.heap.size w0 w ∧ Ctx [] w0 w []) ?_ ?_
    · refine W_block ?_
      refine W.sub (l' := [(0, u1), (1, (.int .i64 (w64 (a2 - (List.length a1 : Int))))), (5, (.int .i64 0))]) ?_ ⟨rfl, rfl, rfl, trivial⟩
      refine W_loop (fun k l w => ∃ x1 : Int, ∃ x2 : Int, l = [(0, u1), (1, (.int .i64 x1)), (5, (.int .i64 x2))] ∧ Below w0.heap.size w0 w ∧ Ctx [] w0 w [] ∧ Q.szChangeS_l1 a1 k x1 x2 = some r1) FUEL ⟨w64 (a2 - (List.length a1 : Int)), 0, rfl, (Below.refl _ _), hC0, hr1⟩ ?_
      clear hr1
      rintro k1 _ w1 ⟨x1, x2, rfl, hB1, hC1, hL1⟩
      cases k1 with
      | zero => rw [Q.szChangeS_l1] at hL1; cases hL1
      | succ k1 =>
        rw [Q.szChangeS_l1] at hL1
        refine W_seq ?_
        refine W_seq_reg ?_
        refine WL_move rfl rfl ?_
        refine WL_move rfl rfl ?_
        refine WL_len Try.underlying87 g1 rfl rfl ?_
        refine WL_lss rfl rfl rfl ?_
        refine WL_nil ?_
        refine W_cond rfl (fun hc2 => ?_) (fun hc2 => ?_)
        · replace hL1 := ite_t hL1 hc2
          refine W_skip ?_
          refine nrm_normal ?_
          refine W_seq ?_
          refine W_block ?_
          refine W_seq_reg ?_
          refine WL_move rfl rfl ?_
          refine WL_move rfl rfl ?_
          obtain ⟨x4, hx1, hL1⟩ := bind_some hL1
          refine WL_index Try.underlying87 ty69 g1 hx1 rfl rfl rfl (fun b1 o1 h1 => ?_)
          refine WL_load ty69 h1 hC1.keep rfl rfl (fun v1 h2 => ?_)
          obtain ⟨v2, rfl, h3⟩ := ro_st69 h2
          refine WL_move rfl rfl ?_
          obtain ⟨x5, hr2, hL1⟩ := bind_some hL1
          refine WL_call Try.call42 rfl rfl (c_Q_szChange x4 v2 (h3.now hC1.keep) x1 x5 hr2) ?_
          intro _ w2 hv1
          obtain ⟨rfl, hB2⟩ := res_int hv1
          have hC2 := hC1.grow hB2
          refine WL_assign rfl rfl ?_
          refine WL_nil ?_
          refine W_seq_reg ?_
          refine WL_move rfl rfl ?_
          refine WL_lss rfl rfl rfl ?_
          refine WL_nil ?_
          refine W_cond rfl (fun hc3 => ?_) (fun hc3 => ?_)
          · replace hL1 := ite_t hL1 hc3
            refine W_seq_reg ?_
            refine WL_assign rfl rfl ?_
            refine WL_nil ?_
            refine W_ret ?_
            refine blk_ret ?_
            refine nrm_ret ?_
            refine nrm_ret ?_
            refine blk_ret ?_
            refine nrm_ret ?_
            refine nrm_ret ?_
            have hq2 := Option.some.inj hL1
            subst hq2
            dsimp only at hF
            have hq3 := Option.some.inj hF
            subst hq3
            refine fn_ret1 rfl rfl ?_
            exact ⟨_, rfl, int_res hC2 _⟩
          · replace hL1 := ite_f hL1 hc3
            refine W_skip ?_
            refine blk_normal ?_
            refine nrm_normal ?_
            refine W_reg ?_
            refine WL_move rfl rfl ?_
            refine WL_add rfl rfl rfl ?_
            refine WL_assign rfl rfl ?_
            refine WL_nil ?_
            refine nrm_sub (l' := [(0, u1), (1, (.int .i64 x5)), (5, (.int .i64 (w64 (x2 + 1))))]) ⟨rfl, rfl, rfl, trivial⟩ ?_
            exact ⟨k1, Nat.lt_succ_self _, x5, w64 (x2 + 1), rfl, ((Keep.of hB1).then hB2).below, hC2, hL1⟩
        · replace hL1 := ite_f hL1 hc2
          refine W_exit ?_
          refine nrm_exit ?_
          refine nrm_exit ?_
          refine blk_exit ?_
          have hq4 := Option.some.inj hL1
          subst hq4
          refine nrm_sub (l' := [(1, (.int .i64 x1))]) ⟨rfl, trivial⟩ ?_
          exact ⟨x1, rfl, rfl, (Keep.of hB1).below, hC1⟩
    · rintro l2 _ w3 hs2 ⟨x3, rfl, rfl, hB3, hC3⟩
      try dsimp only at hF
      refine nrm_sub' hs2 ?_
      clear hs2
      refine W_seq_reg ?_
      refine WL_move rfl rfl ?_
      refine WL_assign rfl rfl ?_
      refine WL_nil ?_
      refine W_ret ?_
      have hq5 := Option.some.inj hF
      subst hq5
      refine fn_ret1 rfl rfl ?_
      exact ⟨_, rfl, int_res hC3 _⟩

theorem c_S_ApplyChanges {w0 : World} (a1 : (List Int)) (u1 : Value) (g1 : RO [] w0 u1 a1) (a2 : ((List (Int × (List Int))) × Int)) (u2 : Value) (g2 : RO [] w0 u2 a2.1) (a3 : (List (Bool × (Int × (List Int))))) (u3 : Value) (g3 : RO [] w0 u3 a3) (rr : ((List (Int × (List Int))) × Int)) (hF : S.ApplyChanges a1 a2 a3 = some rr) :
    Calls Try.prog 54 [u1, (.agg #[u2, (.int .i64 a2.2)]), u3].toArray w0 fun e w' => ∃ v, e = .returned v ∧ Res w0 rr v w' := by
  refine calls_of_W Try.func54 rfl rfl ?_
  have hC0 := Ctx.start w0
  unfold S.ApplyChanges at hF
  refine W_seq_reg ?_
  refine WL_box (cs := [u2, (.int .i64 a2.2)]) hC0 rfl rfl rfl (fun b1 w1 hC1 hB1 => ?_)
  refine WL_alloc hC1 zero73 rfl rfl (fun b2 w2 hC2 hB2 => ?_)
  refine WL_nil ?_
  refine W_seq_reg ?_
  refine WL_load_box_agg [u2, (.int .i64 a2.2)] hC2 1 rfl rfl rfl Try.isAgg73 Try.sizeOf73 rfl rfl ?_
  obtain ⟨x1, hr1, hF⟩ := bind_some hF
  refine WL_call Try.call98 rfl rfl (c_S_l25Copy (a2.1, a2.2) u2 (g2.now hC2.keep) x1 hr1) ?_
  rintro v1 w3 ⟨hB3, F1, hv1, hn1, hb1⟩
  have hC3 := hC2.push hB3 (A := Item.own v1 x1) hv1 hn1 hb1
  obtain ⟨v2, rfl, hC4⟩ := st73_own hC3
  refine WL_alloc hC4 zero73 rfl rfl (fun b3 w4 hC5 hB4 => ?_)
  refine WL_store_box_agg (cs' := [v2, (.int .i64 x1.2)]) (new := [v2, (.int .i64 x1.2)]) hC5 0 rfl rfl (by intro v hv; simp only [List.mem_cons, List.not_mem_nil, or_false] at hv; rcases hv with rfl | rfl; exact (ro_one (hC5.ro 1 rfl)); exact rfl) rfl Try.sizeOf73 rfl rfl (fun w5 hC6 => ?_)
  try dsimp only [List.set] at hC6
  refine WL_nil ?_
  refine W_seq ?_
  refine W_seq_reg ?_
  refine WL_assign rfl rfl ?_
  refine WL_nil ?_
  obtain ⟨r1, hr2, hF⟩ := bind_some hF
  refine W_norm (fun l w => ∃ v4 : Value, ∃ x5 : (List (Int × (List Int))), ∃ x6 : Int, (x5, x6) = r1 ∧ l = [(6, (ptr b2 0)), (7, (ptr b3 0))] ∧ Ctx [] w0 w [Item.box b3 [v4, (.int .i64 x6)], Item.own v4 (x5 : (List (Int × (List Int)))), Item.box b2 [(.slice none 0 0), (.int .i64 0)]]) ?_ ?_
  · refine W_block ?_
    have hC25 : Ctx [] w0 _ [Item.box b2 [(.slice none 0 0), (.int .i64 0)], Item.box b3 [v2, (.int .i64 x1.2)], Item.own v2 (x1.1 : (List (Int × (List Int)))), Item.box b1 [u2, (.int .i64 a2.2)]] := hC6.front 2 rfl
    have hC26 : Ctx [] w0 _ [Item.own v2 (x1.1 : (List (Int × (List Int)))), Item.box b2 [(.slice none 0 0), (.int .i64 0)], Item.box b3 [v2, (.int .i64 x1.2)], Item.box b1 [u2, (.int .i64 a2.2)]] := hC25.front 2 rfl
    have hC27 : Ctx [] w0 _ [Item.box b3 [v2, (.int .i64 x1.2)], Item.own v2 (x1.1 : (List (Int × (List Int)))), Item.box b2 [(.slice none 0 0), (.int .i64 0)], Item.box b1 [u2, (.int .i64 a2.2)]] := hC26.front 2 rfl
    have hC28 : Ctx [] w0 _ [Item.box b3 [v2, (.int .i64 x1.2)], Item.own v2 (x1.1 : (List (Int × (List Int)))), Item.box b2 [(.slice none 0 0), (.int .i64 0)]] := hC27.headN 3
    refine W.sub (l' := [(0, u1), (2, u3), (6, (ptr b2 0)), (7, (ptr b3 0)), (8, (.int .i64 0))]) ?_ ⟨rfl, rfl, rfl, rfl, rfl, trivial⟩
    refine W_loop (fun k l w => ∃ v3 : Value, ∃ x2 : (List (Int × (List Int))), ∃ x3 : Int, ∃ x4 : Int, l = [(0, u1), (2, u3), (6, (ptr b2 0)), (7, (ptr b3 0)), (8, (.int .i64 x4))] ∧ Ctx [] w0 w [Item.box b3 [v3, (.int .i64 x3)], Item.own v3 (x2 : (List (Int × (List Int)))), Item.box b2 [(.slice none 0 0), (.int .i64 0)]] ∧ S.ApplyChanges_l1 a3 a1 k x2 x3 x4 = some r1) FUEL ⟨v2, x1.1, x1.2, 0, rfl, hC28, hr2⟩ ?_
    clear hr2
    rintro k1 _ w6 ⟨v3, x2, x3, x4, rfl, hC7, hL1⟩
    cases k1 with
    | zero => rw [S.ApplyChanges_l1] at hL1; cases hL1
    | succ k1 =>
      rw [S.ApplyChanges_l1] at hL1
      refine W_seq ?_
      refine W_seq_reg ?_
      refine WL_move rfl rfl ?_
      refine WL_move rfl rfl ?_
      refine WL_len Try.underlying90 g3 rfl rfl ?_
      refine WL_lss rfl rfl rfl ?_
      refine WL_nil ?_
      refine W_cond rfl (fun hc1 => ?_) (fun hc1 => ?_)
      · replace hL1 := ite_t hL1 hc1
        refine W_skip ?_
        refine nrm_normal ?_
        refine W_seq ?_
        refine W_block ?_
        obtain ⟨r2, hr3, hL1⟩ := bind_some hL1
        refine W_cut (fun l w => ∃ b4 : Nat, ∃ v5 : Value, ∃ x7 : (List (Int × (List Int))), ∃ x8 : Int, (x7, x8) = r2 ∧ l = [(0, u1), (2, u3), (6, (ptr b2 0)), (7, (ptr b3 0)), (8, (.int .i64 x4)), (9, (ptr b4 0))] ∧ Ctx [] w0 w [Item.box b4 [v5, (.int .i64 x8)], Item.own v5 (x7 : (List (Int × (List Int)))), Item.box b3 [v3, (.int .i64 x3)], Item.own v3 (x2 : (List (Int × (List Int)))), Item.box b2 [(.slice none 0 0), (.int .i64 0)]]) ?_ ?_
        · refine W_drawn 13 rfl hmix (fun w8 hB7 => ?_)
          have hC9 := hC7.grow hB7
          refine WA_take 0 rfl (by kernel_rfl) (by kernel_rfl) (by kernel_rfl) rfl (fl_move rfl) ?_
          refine WL_move rfl rfl ?_
          refine WL_nil ?_
          refine WA_take 2 rfl (by kernel_rfl) (by kernel_rfl) (by kernel_rfl) rfl (fl_move rfl) ?_
          refine WL_move rfl rfl ?_
          refine WL_nil ?_
          refine WA_take 3 rfl (by kernel_rfl) (by kernel_rfl) (by kernel_rfl) rfl (fl_move rfl) ?_
          refine WL_move rfl rfl ?_
          refine WL_nil ?_
          obtain ⟨x9, hx1, hr3⟩ := bind_some hr3
          refine WA_take 4 rfl (by kernel_rfl) (by kernel_rfl) (by kernel_rfl) rfl (fl_index Try.underlying90 ty79 g3 hx1 rfl rfl) ?_
          refine WL_index Try.underlying90 ty79 g3 hx1 rfl rfl rfl (fun b5 o1 h1 => ?_)
          refine WL_nil ?_
          obtain ⟨x10, hr4, hr3⟩ := bind_some hr3
          refine WA.sub (l' := [(0, u1), (2, u3), (6, (ptr b2 0)), (7, (ptr b3 0)), (8, (.int .i64 x4)), (13, (.int .i64 x4)), (14, u3), (15, (.int .i64 (List.length a3 : Int))), (16, (.bool (decide (x4 < (List.length a3 : Int))))), (20, u1), (22, u3), (23, (.int .i64 x4)), (24, (ptr b5 o1))]) ?_ ⟨rfl, rfl, rfl, rfl, rfl, rfl, rfl, rfl, rfl, rfl, rfl, rfl, rfl, trivial⟩
          refine WA_postsO [⟨1, [], fun vs => PW.val (.agg #[v3, (.int .i64 x3)]), []⟩, ⟨5, [], fun vs => PW.ro [] w0 x9, []⟩, ⟨6, [], fun vs => PW.own2 (x10.1 : ((List (Int × (List Int))) × Int)) (x10.2 : Bool), []⟩, ⟨7, [26], fun vs => PW.val (vs.getD 0 undef), []⟩, ⟨8, [19], fun vs => PW.comp (vs.getD 0 undef) 0, []⟩, ⟨9, [19], fun vs => PW.comp (vs.getD 0 undef) 1, []⟩, ⟨10, [], fun vs => PW.box [(.slice none 0 0), (.int .i64 0)], []⟩] [[], [], [1, 5], [6], [6, 7], [6, 7], []] [9] 2 rfl (by kernel_rfl) (by kernel_rfl) ?_ ⟨?_, ?_, trivial⟩
          · refine StepsE_cons rfl ?_ ?_
            · intro w11 hB10
              refine DepsE_nil ?_
              refine ⟨_, rfl, ?_⟩
              refine WL_load_box_agg [v3, (.int .i64 x3)] (hC9.grow hB10) 0 rfl rfl rfl Try.isAgg73 Try.sizeOf73 rfl rfl ?_
              refine WL_nil ?_
              exact FinE_val (Below.refl _ _) rfl rfl ⟨rfl, rfl⟩
            refine StepsE_cons rfl ?_ ?_
            · intro w11 hB10
              refine DepsE_nil ?_
              refine ⟨_, rfl, ?_⟩
              refine WL_load ty79 h1 (hC9.keep.then hB10) rfl rfl (fun v8 h4 => ?_)
              refine WL_nil ?_
              exact FinE_val (Below.refl _ _) rfl rfl ⟨rfl, h4⟩
            refine StepsE_cons rfl ?_ ?_
            · intro w11 hB10
              refine DepsE_cons rfl rfl rfl ?_
              rintro _ _ ⟨rfl, rfl⟩ _
              refine DepsE_cons rfl rfl rfl ?_
              rintro v8 _ ⟨rfl, h4⟩ _
              obtain ⟨v7, rfl, h3⟩ := ro_st79 h4
              refine DepsE_nil ?_
              refine ⟨_, rfl, ?_⟩
              refine WL_call Try.call43 rfl rfl (c_S_ApplyChange a1 u1 (g1.now (hC9.keep.then hB10)) (x2, x3) v3 ((hC9.grow hB10).ro 1 rfl) x9 v7 (h3.now (hC9.keep.then hB10)) x10 hr4) ?_
              rintro _ w9 ⟨hB8, v9, v10, F2, F3, rfl, hv2, hv3, hn2, hb2⟩
              refine WL_nil ?_
              exact FinE_own (F := F2 ++ F3) hB8 rfl rfl ⟨_, _, _, _, rfl, rfl, hv2, hv3⟩ (by simpa using hn2) (fun b h => hb2 b (by simpa using h)) (fun b h => by simp only [List.mem_append] at h; rcases h with h | h <;> first | exact Val.inh hv2 b h | exact Val.inh hv3 b h)
            refine StepsE_cons rfl ?_ ?_
            · intro w11 hB10
              refine DepsE_cons rfl rfl rfl ?_
              rintro _ _ ⟨v9, v10, F2, F3, rfl, rfl, hv2, hv3⟩ _
              obtain ⟨rfl, rfl⟩ := val_bool hv3
              obtain ⟨v11, rfl, h5⟩ := ro_st73 (ro_of_own hv2)
              refine DepsE_nil ?_
              refine ⟨_, rfl, ?_⟩
              refine WL_move rfl rfl ?_
              refine WL_nil ?_
              exact FinE_val (Below.refl _ _) rfl rfl ⟨rfl, rfl⟩
            refine StepsE_cons rfl ?_ ?_
            · intro w11 hB10
              refine DepsE_cons rfl rfl rfl ?_
              rintro _ _ ⟨v9, v10, F2, F3, rfl, rfl, hv2, hv3⟩ _
              obtain ⟨rfl, rfl⟩ := val_bool hv3
              obtain ⟨v11, rfl, h5⟩ := ro_st73 (ro_of_own hv2)
              refine DepsE_cons rfl rfl rfl ?_
              rintro _ _ ⟨rfl, rfl⟩ _
              refine DepsE_nil ?_
              refine ⟨_, rfl, ?_⟩
              refine WL_extract rfl rfl rfl ?_
              refine WL_nil ?_
              exact FinE_val (Below.refl _ _) rfl rfl ⟨⟨_, rfl, rfl⟩, rfl⟩
            refine StepsE_cons rfl ?_ ?_
            · intro w11 hB10
              refine DepsE_cons rfl rfl rfl ?_
              rintro _ _ ⟨v9, v10, F2, F3, rfl, rfl, hv2, hv3⟩ _
              obtain ⟨rfl, rfl⟩ := val_bool hv3
              obtain ⟨v11, rfl, h5⟩ := ro_st73 (ro_of_own hv2)
              refine DepsE_cons rfl rfl rfl ?_
              rintro _ _ ⟨rfl, rfl⟩ _
              refine DepsE_nil ?_
              refine ⟨_, rfl, ?_⟩
              refine WL_extract rfl rfl rfl ?_
              refine WL_nil ?_
              exact FinE_val (Below.refl _ _) rfl rfl ⟨⟨_, rfl, rfl⟩, rfl⟩
            refine StepsE_cons rfl ?_ ?_
            · intro w11 hB10
              refine DepsE_nil ?_
              refine ⟨_, rfl, ?_⟩
              refine WL_alloc (Ctx.start _) zero73 rfl rfl (fun b6 w10 hC10 hB9 => ?_)
              refine WL_nil ?_
              exact FinE_ctx hC10 rfl rfl (fun F h => ⟨b6, rfl, h⟩)
            exact StepsE_nil
          · intro g' hg'
            obtain rfl : g' = 2 := hg'
            intro w12 hB11
            refine AllE_cons rfl rfl rfl ?_
            rintro _ _ ⟨rfl, rfl⟩
            refine AllE_cons rfl rfl rfl ?_
            rintro v8 _ ⟨rfl, h4⟩
            obtain ⟨v7, rfl, h3⟩ := ro_st79 h4
            refine AllE_cons rfl rfl rfl ?_
            rintro _ _ ⟨v9, v10, F2, F3, rfl, rfl, hv2, hv3⟩
            obtain ⟨rfl, rfl⟩ := val_bool hv3
            refine AllE_cons rfl rfl rfl ?_
            rintro _ _ ⟨rfl, rfl⟩
            refine AllE_cons rfl rfl rfl ?_
            rintro _ _ ⟨⟨_, hx2, hx3⟩, rfl⟩
            obtain rfl := Value.tuple.inj hx2
            obtain rfl := Option.some.inj (show (some v9 : Option Value) = some _ from hx3)
            refine AllE_cons rfl rfl rfl ?_
            rintro _ _ ⟨⟨_, hx4, hx5⟩, rfl⟩
            obtain rfl := Value.tuple.inj hx4
            obtain rfl := Option.some.inj (show (some (.bool x10.2) : Option Value) = some _ from hx5)
            refine AllE_cons rfl rfl rfl ?_
            rintro _ F4 ⟨b6, rfl, hv4⟩
            refine AllE_nil ?_
            intro hn3 hb3
            have hC11 := hC9.pushL hB11 (Bs := [Item.box b6 [(.slice none 0 0), (.int .i64 0)], Item.own v9 (x10.1 : ((List (Int × (List Int))) × Int))]) (Fs := [F4, F2]) ⟨F4, _, rfl, hv4, F2, _, rfl, hv2, rfl⟩ (by simpa using hn3) (fun b h => (hb3 b (by simpa using h)).1)
            have hC12 : Ctx [] w0 _ [Item.own v9 (x10.1 : ((List (Int × (List Int))) × Int)), Item.box b6 [(.slice none 0 0), (.int .i64 0)], Item.box b3 [v3, (.int .i64 x3)], Item.own v3 (x2 : (List (Int × (List Int)))), Item.box b2 [(.slice none 0 0), (.int .i64 0)]] := hC11.front 1 rfl
            obtain ⟨v12, rfl, hC13⟩ := st73_own hC12
            refine WA_one 11 (by kernel_rfl) rfl ?_
            refine WL_store_box_agg (cs' := [v12, (.int .i64 x10.1.2)]) (new := [v12, (.int .i64 x10.1.2)]) hC13 1 rfl rfl (by intro v hv; simp only [List.mem_cons, List.not_mem_nil, or_false] at hv; rcases hv with rfl | rfl; exact (ro_one (hC13.ro 0 rfl)); exact rfl) rfl Try.sizeOf73 rfl rfl (fun w13 hC14 => ?_)
            try dsimp only [List.set] at hC14
            refine WL_nil ?_
            refine WA_take 12 rfl (by kernel_rfl) (by kernel_rfl) (by kernel_rfl) rfl (fl_assign rfl) ?_
            refine WL_assign rfl rfl ?_
            refine WL_nil ?_
            refine WA_done (by kernel_rfl) ?_
            have hq1 := Option.some.inj hr3
            subst hq1
            have hC15 : Ctx [] w0 _ [Item.box b2 [(.slice none 0 0), (.int .i64 0)], Item.own v12 (x10.1.1 : (List (Int × (List Int)))), Item.box b6 [v12, (.int .i64 x10.1.2)], Item.box b3 [v3, (.int .i64 x3)], Item.own v3 (x2 : (List (Int × (List Int))))] := hC14.front 4 rfl
            have hC16 : Ctx [] w0 _ [Item.own v3 (x2 : (List (Int × (List Int)))), Item.box b2 [(.slice none 0 0), (.int .i64 0)], Item.own v12 (x10.1.1 : (List (Int × (List Int)))), Item.box b6 [v12, (.int .i64 x10.1.2)], Item.box b3 [v3, (.int .i64 x3)]] := hC15.front 4 rfl
            have hC17 : Ctx [] w0 _ [Item.box b3 [v3, (.int .i64 x3)], Item.own v3 (x2 : (List (Int × (List Int)))), Item.box b2 [(.slice none 0 0), (.int .i64 0)], Item.own v12 (x10.1.1 : (List (Int × (List Int)))), Item.box b6 [v12, (.int .i64 x10.1.2)]] := hC16.front 4 rfl
            have hC18 : Ctx [] w0 _ [Item.own v12 (x10.1.1 : (List (Int × (List Int)))), Item.box b3 [v3, (.int .i64 x3)], Item.own v3 (x2 : (List (Int × (List Int)))), Item.box b2 [(.slice none 0 0), (.int .i64 0)], Item.box b6 [v12, (.int .i64 x10.1.2)]] := hC17.front 3 rfl
            have hC19 : Ctx [] w0 _ [Item.box b6 [v12, (.int .i64 x10.1.2)], Item.own v12 (x10.1.1 : (List (Int × (List Int)))), Item.box b3 [v3, (.int .i64 x3)], Item.own v3 (x2 : (List (Int × (List Int)))), Item.box b2 [(.slice none 0 0), (.int .i64 0)]] := hC18.front 4 rfl
            refine nrm_sub (l' := [(0, u1), (2, u3), (6, (ptr b2 0)), (7, (ptr b3 0)), (8, (.int .i64 x4)), (9, (ptr b6 0))]) ⟨rfl, rfl, rfl, rfl, rfl, rfl, trivial⟩ ?_
            exact ⟨b6, v12, x10.1.1, x10.1.2, rfl, rfl, hC19⟩
          · intro g' hg'
            obtain rfl : g' = 3 := hg'
            intro w12 hB11
            refine AllE_cons rfl rfl rfl ?_
            rintro _ _ ⟨rfl, rfl⟩
            refine AllE_cons rfl rfl rfl ?_
            rintro v8 _ ⟨rfl, h4⟩
            obtain ⟨v7, rfl, h3⟩ := ro_st79 h4
            refine AllE_cons rfl rfl rfl ?_
            rintro _ _ ⟨v9, v10, F2, F3, rfl, rfl, hv2, hv3⟩
            obtain ⟨rfl, rfl⟩ := val_bool hv3
            refine AllE_cons rfl rfl rfl ?_
            rintro _ _ ⟨rfl, rfl⟩
            refine AllE_cons rfl rfl rfl ?_
            rintro _ _ ⟨⟨_, hx2, hx3⟩, rfl⟩
            obtain rfl := Value.tuple.inj hx2
            obtain rfl := Option.some.inj (show (some v9 : Option Value) = some _ from hx3)
            refine AllE_cons rfl rfl rfl ?_
            rintro _ F4 ⟨b6, rfl, hv4⟩
            refine AllE_nil ?_
            intro hn3 hb3
            have hC11 := hC9.pushL hB11 (Bs := [Item.box b6 [(.slice none 0 0), (.int .i64 0)], Item.own v9 (x10.1 : ((List (Int × (List Int))) × Int))]) (Fs := [F4, F2]) ⟨F4, _, rfl, hv4, F2, _, rfl, hv2, rfl⟩ (by simpa using hn3) (fun b h => (hb3 b (by simpa using h)).1)
            have hC12 : Ctx [] w0 _ [Item.own v9 (x10.1 : ((List (Int × (List Int))) × Int)), Item.box b6 [(.slice none 0 0), (.int .i64 0)], Item.box b3 [v3, (.int .i64 x3)], Item.own v3 (x2 : (List (Int × (List Int)))), Item.box b2 [(.slice none 0 0), (.int .i64 0)]] := hC11.front 1 rfl
            obtain ⟨v12, rfl, hC13⟩ := st73_own hC12
            refine WA_take 9 rfl (by kernel_rfl) (by kernel_rfl) (by kernel_rfl) rfl (fl_extract rfl rfl) ?_
            refine WL_extract rfl rfl rfl ?_
            refine WL_nil ?_
            refine WA_one 11 (by kernel_rfl) rfl ?_
            refine WL_store_box_agg (cs' := [v12, (.int .i64 x10.1.2)]) (new := [v12, (.int .i64 x10.1.2)]) hC13 1 rfl rfl (by intro v hv; simp only [List.mem_cons, List.not_mem_nil, or_false] at hv; rcases hv with rfl | rfl; exact (ro_one (hC13.ro 0 rfl)); exact rfl) rfl Try.sizeOf73 rfl rfl (fun w13 hC14 => ?_)
            try dsimp only [List.set] at hC14
            refine WL_nil ?_
            refine WA_take 12 rfl (by kernel_rfl) (by kernel_rfl) (by kernel_rfl) rfl (fl_assign rfl) ?_
            refine WL_assign rfl rfl ?_
            refine WL_nil ?_
            refine WA_done (by kernel_rfl) ?_
            have hq1 := Option.some.inj hr3
            subst hq1
            have hC15 : Ctx [] w0 _ [Item.box b2 [(.slice none 0 0), (.int .i64 0)], Item.own v12 (x10.1.1 : (List (Int × (List Int)))), Item.box b6 [v12, (.int .i64 x10.1.2)], Item.box b3 [v3, (.int .i64 x3)], Item.own v3 (x2 : (List (Int × (List Int))))] := hC14.front 4 rfl
            have hC16 : Ctx [] w0 _ [Item.own v3 (x2 : (List (Int × (List Int)))), Item.box b2 [(.slice none 0 0), (.int .i64 0)], Item.own v12 (x10.1.1 : (List (Int × (List Int)))), Item.box b6 [v12, (.int .i64 x10.1.2)], Item.box b3 [v3, (.int .i64 x3)]] := hC15.front 4 rfl
            have hC17 : Ctx [] w0 _ [Item.box b3 [v3, (.int .i64 x3)], Item.own v3 (x2 : (List (Int × (List Int)))), Item.box b2 [(.slice none 0 0), (.int .i64 0)], Item.own v12 (x10.1.1 : (List (Int × (List Int)))), Item.box b6 [v12, (.int .i64 x10.1.2)]] := hC16.front 4 rfl
            have hC18 : Ctx [] w0 _ [Item.own v12 (x10.1.1 : (List (Int × (List Int)))), Item.box b3 [v3, (.int .i64 x3)], Item.own v3 (x2 : (List (Int × (List Int)))), Item.box b2 [(.slice none 0 0), (.int .i64 0)], Item.box b6 [v12, (.int .i64 x10.1.2)]] := hC17.front 3 rfl
            have hC19 : Ctx [] w0 _ [Item.box b6 [v12, (.int .i64 x10.1.2)], Item.own v12 (x10.1.1 : (List (Int × (List Int)))), Item.box b3 [v3, (.int .i64 x3)], Item.own v3 (x2 : (List (Int × (List Int)))), Item.box b2 [(.slice none 0 0), (.int .i64 0)]] := hC18.front 4 rfl
            refine nrm_sub (l' := [(0, u1), (2, u3), (6, (ptr b2 0)), (7, (ptr b3 0)), (8, (.int .i64 x4)), (9, (ptr b6 0))]) ⟨rfl, rfl, rfl, rfl, rfl, rfl, trivial⟩ ?_
            exact ⟨b6, v12, x10.1.1, x10.1.2, rfl, rfl, hC19⟩
        · rintro _ w7 ⟨b4, v5, x7, x8, rfl, rfl, hC8⟩
          try dsimp only at hL1
          refine W_reg ?_
          refine WL_load_box_agg [v5, (.int .i64 x8)] hC8 0 rfl rfl rfl Try.isAgg73 Try.sizeOf73 rfl rfl ?_
          refine WL_store_box_agg (cs' := [v5, (.int .i64 x8)]) (new := [v5, (.int .i64 x8)]) hC8 2 rfl rfl (by intro v hv; simp only [List.mem_cons, List.not_mem_nil, or_false] at hv; rcases hv with rfl | rfl; exact (ro_one (hC8.ro 1 rfl)); exact rfl) rfl Try.sizeOf73 rfl rfl (fun w14 hC20 => ?_)
          try dsimp only [List.set] at hC20
          refine WL_nil ?_
          refine blk_normal ?_
          refine nrm_normal ?_
          refine W_reg ?_
          refine WL_move rfl rfl ?_
          refine WL_add rfl rfl rfl ?_
          refine WL_assign rfl rfl ?_
          refine WL_nil ?_
          have hC21 : Ctx [] w0 _ [Item.box b2 [(.slice none 0 0), (.int .i64 0)], Item.box b4 [v5, (.int .i64 x8)], Item.own v5 (x7 : (List (Int × (List Int)))), Item.box b3 [v5, (.int .i64 x8)], Item.own v3 (x2 : (List (Int × (List Int))))] := hC20.front 4 rfl
          have hC22 : Ctx [] w0 _ [Item.own v5 (x7 : (List (Int × (List Int)))), Item.box b2 [(.slice none 0 0), (.int .i64 0)], Item.box b4 [v5, (.int .i64 x8)], Item.box b3 [v5, (.int .i64 x8)], Item.own v3 (x2 : (List (Int × (List Int))))] := hC21.front 2 rfl
          have hC23 : Ctx [] w0 _ [Item.box b3 [v5, (.int .i64 x8)], Item.own v5 (x7 : (List (Int × (List Int)))), Item.box b2 [(.slice none 0 0), (.int .i64 0)], Item.box b4 [v5, (.int .i64 x8)], Item.own v3 (x2 : (List (Int × (List Int))))] := hC22.front 3 rfl
          have hC24 : Ctx [] w0 _ [Item.box b3 [v5, (.int .i64 x8)], Item.own v5 (x7 : (List (Int × (List Int)))), Item.box b2 [(.slice none 0 0), (.int .i64 0)]] := hC23.headN 3
          refine nrm_sub (l' := [(0, u1), (2, u3), (6, (ptr b2 0)), (7, (ptr b3 0)), (8, (.int .i64 (w64 (x4 + 1))))]) ⟨rfl, rfl, rfl, rfl, rfl, trivial⟩ ?_
          exact ⟨k1, Nat.lt_succ_self _, v5, x7, x8, w64 (x4 + 1), rfl, hC24, hL1⟩
      · replace hL1 := ite_f hL1 hc1
        refine W_exit ?_
        refine nrm_exit ?_
        refine nrm_exit ?_
        refine blk_exit ?_
        have hq2 := Option.some.inj hL1
        subst hq2
        refine nrm_sub (l' := [(6, (ptr b2 0)), (7, (ptr b3 0))]) ⟨rfl, rfl, trivial⟩ ?_
        exact ⟨v3, x2, x3, rfl, rfl, hC7⟩
  · rintro l3 _ w15 hs3 ⟨v4, x5, x6, rfl, rfl, hC29⟩
    try dsimp only at hF
    refine nrm_sub' hs3 ?_
    clear hs3
    refine W_seq_reg ?_
    refine WL_load_box_agg [v4, (.int .i64 x6)] hC29 0 rfl rfl rfl Try.isAgg73 Try.sizeOf73 rfl rfl ?_
    refine WL_store_box_agg (cs' := [v4, (.int .i64 x6)]) (new := [v4, (.int .i64 x6)]) hC29 2 rfl rfl (by intro v hv; simp only [List.mem_cons, List.not_mem_nil, or_false] at hv; rcases hv with rfl | rfl; exact (ro_one (hC29.ro 1 rfl)); exact rfl) rfl Try.sizeOf73 rfl rfl (fun w16 hC30 => ?_)
    try dsimp only [List.set] at hC30
    refine WL_nil ?_
    refine W_ret ?_
    have hq3 := Option.some.inj hF
    subst hq3
    refine fn_retG1 rfl (rv_cell_agg (cs' := [v4, (.int .i64 x6)]) hC30 (i := 2) rfl rfl rfl Try.isAgg73 Try.sizeOf73 rfl) ?_
    have hC32 : Ctx [] w0 _ [Item.own v4 (x5 : (List (Int × (List Int)))), Item.box b3 [v4, (.int .i64 x6)], Item.box b2 [v4, (.int .i64 x6)]] := hC30.front 1 rfl
    have hC31 := own_st73 v4 x5 x6 hC32
    exact ⟨_, rfl, own_res hC31 0 rfl⟩

theorem c_Q_toChangeS {w0 : World} (a1 : (List (Bool × (Int × (List Int))))) (u1 : Value) (g1 : RO [] w0 u1 a1) (rr : (List (Bool × (Int × (List Int))))) (hF : Q.toChangeS a1 = some rr) :
    Calls Try.prog 55 [u1].toArray w0 fun e w' => ∃ v, e = .returned v ∧ Res w0 rr v w' := by
  refine calls_of_W Try.func55 rfl rfl ?_
  have hC0 := Ctx.start w0
  unfold Q.toChangeS at hF
  refine W_seq_reg ?_
  refine WL_assign rfl rfl ?_
  refine WL_nil ?_
  refine W_seq_reg ?_
  refine WL_move rfl rfl ?_
  refine WL_len Try.underlying87 g1 rfl rfl ?_
  obtain ⟨x1, hx1, hF⟩ := bind_some hF
  refine WL_makeSlice hC0 Try.underlying90 ty79 rfl zc79 zr79 hx1 rfl rfl rfl (fun b1 w1 hC1 hB1 => ?_)
  refine WL_assign rfl rfl ?_
  refine WL_nil ?_
  refine W_seq ?_
  refine W_seq_reg ?_
  refine WL_assign rfl rfl ?_
  refine WL_nil ?_
  obtain ⟨r1, hr1, hF⟩ := bind_some hF
  refine W_norm (fun l w => ∃ x4 : (List (Bool × (Int × (List Int)))), x4 = r1 ∧ l = [(3, (.slice (some ⟨b1, 0, none⟩) (Int.toNat (List.length a1 : Int)) (Int.toNat (List.length a1 : Int))))] ∧ Ctx [] w0 w [Item.own (.slice (some ⟨b1, 0, none⟩) (Int.toNat (List.length a1 : Int)) (Int.toNat (List.length a1 : Int))) (x4 : (List (Bool × (Int × (List Int)))))]) ?_ ?_
  · refine W_block ?_
    refine W.sub (l' := [(0, u1), (3, (.slice (some ⟨b1, 0, none⟩) (Int.toNat (List.length a1 : Int)) (Int.toNat (List.length a1 : Int)))), (4, (.int .i64 0))]) ?_ ⟨rfl, rfl, rfl, trivial⟩
    refine W_loop (fun k l w => ∃ x2 : (List (Bool × (Int × (List Int)))), ∃ x3 : Int, l = [(0, u1), (3, (.slice (some ⟨b1, 0, none⟩) (Int.toNat (List.length a1 : Int)) (Int.toNat (List.length a1 : Int)))), (4, (.int .i64 x3))] ∧ Ctx [] w0 w [Item.own (.slice (some ⟨b1, 0, none⟩) (Int.toNat (List.length a1 : Int)) (Int.toNat (List.length a1 : Int))) (x2 : (List (Bool × (Int × (List Int)))))] ∧ Q.toChangeS_l1 a1 k x2 x3 = some r1) FUEL ⟨x1, 0, rfl, hC1, hr1⟩ ?_
    clear hr1
    rintro k1 _ w2 ⟨x2, x3, rfl, hC2, hL1⟩
    cases k1 with
    | zero => rw [Q.toChangeS_l1] at hL1; cases hL1
    | succ k1 =>
      rw [Q.toChangeS_l1] at hL1
      refine W_seq ?_
      refine W_seq_reg ?_
      refine WL_move rfl rfl ?_
      refine WL_move rfl rfl ?_
      refine WL_len Try.underlying87 g1 rfl rfl ?_
      refine WL_lss rfl rfl rfl ?_
      refine WL_nil ?_
      refine W_cond rfl (fun hc1 => ?_) (fun hc1 => ?_)
      · replace hL1 := ite_t hL1 hc1
        refine W_skip ?_
        refine nrm_normal ?_
        refine W_seq ?_
        refine W_block ?_
        refine W_reg ?_
        refine WL_move rfl rfl ?_
        refine WL_move rfl rfl ?_
        refine WL_move rfl rfl ?_
        refine WL_move rfl rfl ?_
        obtain ⟨x5, hx2, hL1⟩ := bind_some hL1
        refine WL_index Try.underlying87 ty69 g1 hx2 rfl rfl rfl (fun b2 o1 h1 => ?_)
        refine WL_load ty69 h1 hC2.keep rfl rfl (fun v1 h2 => ?_)
        obtain ⟨v2, rfl, h3⟩ := ro_st69 h2
        obtain ⟨x6, hr2, hL1⟩ := bind_some hL1
        refine WL_call Try.call45 rfl rfl (c_Q_toChange x5 v2 (h3.now hC2.keep) x6 hr2) ?_
        rintro v3 w3 ⟨hB3, F1, hv1, hn1, hb1⟩
        have hC3 := hC2.push hB3 (A := Item.own v3 x6) hv1 hn1 hb1
        obtain ⟨v4, rfl, hC4⟩ := st79_own hC3
        obtain ⟨x7, hx3, hL1⟩ := bind_some hL1
        refine WL_index_own hC4 1 rfl Try.underlying90 ty79 hx3 rfl rfl rfl (fun b3 hE1 => ?_)
        have hC6 := own_st79 x6.1 x6.2.1 v4 x6.2.2 hC4
        refine WL_store_elem hC6 0 rfl ty79 hE1 hx3 rfl rfl rfl (fun w4 hC5 => ?_)
        try dsimp only [List.set] at hC5
        refine WL_nil ?_
        refine blk_normal ?_
        refine nrm_normal ?_
        refine W_reg ?_
        refine WL_move rfl rfl ?_
        refine WL_add rfl rfl rfl ?_
        refine WL_assign rfl rfl ?_
        refine WL_nil ?_
        refine nrm_sub (l' := [(0, u1), (3, (.slice (some ⟨b1, 0, none⟩) (Int.toNat (List.length a1 : Int)) (Int.toNat (List.length a1 : Int)))), (4, (.int .i64 (w64 (x3 + 1))))]) ⟨rfl, rfl, rfl, trivial⟩ ?_
        exact ⟨k1, Nat.lt_succ_self _, (List.set x2 (Int.toNat x3) (x6.1, (x6.2.1, x6.2.2))), w64 (x3 + 1), rfl, hC5, hL1⟩
      · replace hL1 := ite_f hL1 hc1
        refine W_exit ?_
        refine nrm_exit ?_
        refine nrm_exit ?_
        refine blk_exit ?_
        have hq1 := Option.some.inj hL1
        subst hq1
        refine nrm_sub (l' := [(3, (.slice (some ⟨b1, 0, none⟩) (Int.toNat (List.length a1 : Int)) (Int.toNat (List.length a1 : Int))))]) ⟨rfl, trivial⟩ ?_
        exact ⟨x2, rfl, rfl, hC2⟩
  · rintro l2 _ w5 hs2 ⟨x4, rfl, rfl, hC8⟩
    try dsimp only at hF
    refine nrm_sub' hs2 ?_
    clear hs2
    refine W_seq_reg ?_
    refine WL_move rfl rfl ?_
    refine WL_assign rfl rfl ?_
    refine WL_nil ?_
    refine W_ret ?_
    have hq2 := Option.some.inj hF
    subst hq2
    refine fn_ret1 rfl rfl ?_
    exact ⟨_, rfl, own_res hC8 0 rfl⟩

theorem c_M_ApplyChanges {w0 : World} (a1 : (List Int)) (u1 : Value) (g1 : RO [] w0 u1 a1) (a2 : ((List (Int × (List Int))) × Int)) (u2 : Value) (g2 : RO [] w0 u2 a2.1) (a3 : (List (Bool × (Int × (List Int))))) (u3 : Value) (g3 : RO [] w0 u3 a3) (rr : ((List (Int × (List Int))) × Int)) (hF : M.ApplyChanges a1 a2 a3 = some rr) :
    Calls Try.prog 56 [u1, (.agg #[u2, (.int .i64 a2.2)]), u3].toArray w0 fun e w' => ∃ v, e = .returned v ∧ Res w0 rr v w' := by
  refine calls_of_W Try.func56 rfl rfl ?_
  have hC0 := Ctx.start w0
  unfold M.ApplyChanges at hF
  refine W_seq_reg ?_
  refine WL_box (cs := [u2, (.int .i64 a2.2)]) hC0 rfl rfl rfl (fun b1 w1 hC1 hB1 => ?_)
  refine WL_alloc hC1 zero73 rfl rfl (fun b2 w2 hC2 hB2 => ?_)
  refine WL_nil ?_
  refine W_seq_reg ?_
  refine WL_load_box_agg [u2, (.int .i64 a2.2)] hC2 1 rfl rfl rfl Try.isAgg73 Try.sizeOf73 rfl rfl ?_
  obtain ⟨x1, hr1, hF⟩ := bind_some hF
  refine WL_call Try.call103 rfl rfl (c_M_copySource (a2.1, a2.2) u2 (g2.now hC2.keep) x1 hr1) ?_
  rintro v1 w3 ⟨hB3, F1, hv1, hn1, hb1⟩
  have hC3 := hC2.push hB3 (A := Item.own v1 x1) hv1 hn1 hb1
  obtain ⟨v2, rfl, hC4⟩ := st73_own hC3
  refine WL_alloc hC4 zero73 rfl rfl (fun b3 w4 hC5 hB4 => ?_)
  refine WL_store_box_agg (cs' := [v2, (.int .i64 x1.2)]) (new := [v2, (.int .i64 x1.2)]) hC5 0 rfl rfl (by intro v hv; simp only [List.mem_cons, List.not_mem_nil, or_false] at hv; rcases hv with rfl | rfl; exact (ro_one (hC5.ro 1 rfl)); exact rfl) rfl Try.sizeOf73 rfl rfl (fun w5 hC6 => ?_)
  try dsimp only [List.set] at hC6
  refine WL_nil ?_
  refine W_seq ?_
  refine W_seq_reg ?_
  refine WL_move rfl rfl ?_
  refine WL_len Try.underlying90 g3 rfl rfl ?_
  refine WL_move rfl rfl ?_
  refine WL_nil ?_
  obtain ⟨r1, hr2, hF⟩ := bind_some hF
  refine W_norm (fun l w => ∃ v4 : Value, ∃ x5 : (List (Int × (List Int))), ∃ x6 : Int, (x5, x6) = r1 ∧ l = [(6, (ptr b2 0)), (7, (ptr b3 0))] ∧ Ctx [] w0 w [Item.box b3 [v4, (.int .i64 x6)], Item.own v4 (x5 : (List (Int × (List Int)))), Item.box b2 [(.slice none 0 0), (.int .i64 0)]]) ?_ ?_
  · refine W_block ?_
    have hC17 : Ctx [] w0 _ [Item.box b2 [(.slice none 0 0), (.int .i64 0)], Item.box b3 [v2, (.int .i64 x1.2)], Item.own v2 (x1.1 : (List (Int × (List Int)))), Item.box b1 [u2, (.int .i64 a2.2)]] := hC6.front 2 rfl
    have hC18 : Ctx [] w0 _ [Item.own v2 (x1.1 : (List (Int × (List Int)))), Item.box b2 [(.slice none 0 0), (.int .i64 0)], Item.box b3 [v2, (.int .i64 x1.2)], Item.box b1 [u2, (.int .i64 a2.2)]] := hC17.front 2 rfl
    have hC19 : Ctx [] w0 _ [Item.box b3 [v2, (.int .i64 x1.2)], Item.own v2 (x1.1 : (List (Int × (List Int)))), Item.box b2 [(.slice none 0 0), (.int .i64 0)], Item.box b1 [u2, (.int .i64 a2.2)]] := hC18.front 2 rfl
    have hC20 : Ctx [] w0 _ [Item.box b3 [v2, (.int .i64 x1.2)], Item.own v2 (x1.1 : (List (Int × (List Int)))), Item.box b2 [(.slice none 0 0), (.int .i64 0)]] := hC19.headN 3
    refine W.sub (l' := [(0, u1), (6, (ptr b2 0)), (7, (ptr b3 0)), (12, u3), (13, (.int .i64 (List.length a3 : Int))), (14, (.int .i64 0))]) ?_ ⟨rfl, rfl, rfl, rfl, rfl, rfl, trivial⟩
    refine W_loop (fun k l w => ∃ v3 : Value, ∃ x2 : (List (Int × (List Int))), ∃ x3 : Int, ∃ x4 : Int, l = [(0, u1), (6, (ptr b2 0)), (7, (ptr b3 0)), (12, u3), (13, (.int .i64 (List.length a3 : Int))), (14, (.int .i64 x4))] ∧ Ctx [] w0 w [Item.box b3 [v3, (.int .i64 x3)], Item.own v3 (x2 : (List (Int × (List Int)))), Item.box b2 [(.slice none 0 0), (.int .i64 0)]] ∧ M.ApplyChanges_l1 a3 a1 k x2 x3 x4 = some r1) FUEL ⟨v2, x1.1, x1.2, 0, rfl, hC20, hr2⟩ ?_
    clear hr2
    rintro k1 _ w6 ⟨v3, x2, x3, x4, rfl, hC7, hL1⟩
    cases k1 with
    | zero => rw [M.ApplyChanges_l1] at hL1; cases hL1
    | succ k1 =>
      rw [M.ApplyChanges_l1] at hL1
      refine W_seq_reg ?_
      refine WL_lss rfl rfl rfl ?_
      refine WL_nil ?_
      refine W_seq ?_
      refine W_cond rfl (fun hc1 => ?_) (fun hc1 => ?_)
      · replace hL1 := ite_t hL1 hc1
        refine W_skip ?_
        refine nrm_normal ?_
        refine W_seq ?_
        refine W_block ?_
        refine W_seq_reg ?_
        obtain ⟨x7, hx1, hL1⟩ := bind_some hL1
        refine WL_index Try.underlying90 ty79 g3 hx1 rfl rfl rfl (fun b4 o1 h1 => ?_)
        refine WL_load ty79 h1 hC7.keep rfl rfl (fun v5 h2 => ?_)
        obtain ⟨v6, rfl, h3⟩ := ro_st79 h2
        refine WL_alloc hC7 zero79 rfl rfl (fun b5 w7 hC8 hB6 => ?_)
        refine WL_store_box_agg (cs' := [(.bool x7.1), (.int .i64 x7.2.1), v6]) (new := [(.bool x7.1), (.int .i64 x7.2.1), v6]) hC8 0 rfl rfl (by intro v hv; simp only [List.mem_cons, List.not_mem_nil, or_false] at hv; rcases hv with rfl | rfl | rfl; exact rfl; exact rfl; exact (ro_one h3)) rfl Try.sizeOf79 rfl rfl (fun w8 hC9 => ?_)
        try dsimp only [List.set] at hC9
        refine WL_nil ?_
        refine W_reg ?_
        refine WL_move rfl rfl ?_
        refine WL_load_box_agg [v3, (.int .i64 x3)] hC9 1 rfl rfl rfl Try.isAgg73 Try.sizeOf73 rfl rfl ?_
        refine WL_load_box_agg [(.bool x7.1), (.int .i64 x7.2.1), v6] hC9 0 rfl rfl rfl Try.isAgg79 Try.sizeOf79 rfl rfl ?_
        obtain ⟨x8, hr3, hL1⟩ := bind_some hL1
        refine WL_call Try.call46 rfl rfl (c_M_ApplyChange a1 u1 (g1.now hC9.keep) (x2, x3) v3 ((hC9.ro 2 rfl).now (Keep.refl _ _)) (x7.1, (x7.2.1, x7.2.2)) v6 (h3.now hC9.keep) x8 hr3) ?_
        rintro _ w9 ⟨hB7, v7, v8, F2, F3, rfl, hv2, hv3, hn2, hb2⟩
        obtain ⟨rfl, rfl⟩ := val_bool hv3
        have hC10 := hC9.pushL hB7 (Bs := [Item.own v7 x8.1]) (Fs := [F2]) ⟨F2, _, rfl, hv2, rfl⟩ (by simpa using hn2) (fun b h => hb2 b (by simpa using h))
        obtain ⟨v9, rfl, hC11⟩ := st73_own hC10
        refine WL_move rfl rfl ?_
        refine WL_extract rfl rfl rfl ?_
        refine WL_extract rfl rfl rfl ?_
        refine WL_store_box_agg (cs' := [v9, (.int .i64 x8.1.2)]) (new := [v9, (.int .i64 x8.1.2)]) hC11 2 rfl rfl (by intro v hv; simp only [List.mem_cons, List.not_mem_nil, or_false] at hv; rcases hv with rfl | rfl; exact (ro_one (hC11.ro 0 rfl)); exact rfl) rfl Try.sizeOf73 rfl rfl (fun w10 hC12 => ?_)
        try dsimp only [List.set] at hC12
        refine WL_nil ?_
        refine blk_normal ?_
        refine nrm_normal ?_
        refine W_reg ?_
        refine WL_add rfl rfl rfl ?_
        refine WL_move rfl rfl ?_
        refine WL_nil ?_
        have hC13 : Ctx [] w0 _ [Item.box b2 [(.slice none 0 0), (.int .i64 0)], Item.own v9 (x8.1.1 : (List (Int × (List Int)))), Item.box b5 [(.bool x7.1), (.int .i64 x7.2.1), v6], Item.box b3 [v9, (.int .i64 x8.1.2)], Item.own v3 (x2 : (List (Int × (List Int))))] := hC12.front 4 rfl
        have hC14 : Ctx [] w0 _ [Item.own v9 (x8.1.1 : (List (Int × (List Int)))), Item.box b2 [(.slice none 0 0), (.int .i64 0)], Item.box b5 [(.bool x7.1), (.int .i64 x7.2.1), v6], Item.box b3 [v9, (.int .i64 x8.1.2)], Item.own v3 (x2 : (List (Int × (List Int))))] := hC13.front 1 rfl
        have hC15 : Ctx [] w0 _ [Item.box b3 [v9, (.int .i64 x8.1.2)], Item.own v9 (x8.1.1 : (List (Int × (List Int)))), Item.box b2 [(.slice none 0 0), (.int .i64 0)], Item.box b5 [(.bool x7.1), (.int .i64 x7.2.1), v6], Item.own v3 (x2 : (List (Int × (List Int))))] := hC14.front 3 rfl
        have hC16 : Ctx [] w0 _ [Item.box b3 [v9, (.int .i64 x8.1.2)], Item.own v9 (x8.1.1 : (List (Int × (List Int)))), Item.box b2 [(.slice none 0 0), (.int .i64 0)]] := hC15.headN 3
        refine nrm_sub (l' := [(0, u1), (6, (ptr b2 0)), (7, (ptr b3 0)), (12, u3), (13, (.int .i64 (List.length a3 : Int))), (14, (.int .i64 (w64 (x4 + 1))))]) ⟨rfl, rfl, rfl, rfl, rfl, rfl, trivial⟩ ?_
        exact ⟨k1, Nat.lt_succ_self _, v9, x8.1.1, x8.1.2, w64 (x4 + 1), rfl, hC16, hL1⟩
      · replace hL1 := ite_f hL1 hc1
        refine W_exit ?_
        refine nrm_exit ?_
        refine nrm_exit ?_
        refine blk_exit ?_
        have hq1 := Option.some.inj hL1
        subst hq1
        refine nrm_sub (l' := [(6, (ptr b2 0)), (7, (ptr b3 0))]) ⟨rfl, rfl, trivial⟩ ?_
        exact ⟨v3, x2, x3, rfl, rfl, hC7⟩
  · rintro l2 _ w11 hs2 ⟨v4, x5, x6, rfl, rfl, hC21⟩
    try dsimp only at hF
    refine nrm_sub' hs2 ?_
    clear hs2
    refine W_seq_reg ?_
    refine WL_load_box_agg [v4, (.int .i64 x6)] hC21 0 rfl rfl rfl Try.isAgg73 Try.sizeOf73 rfl rfl ?_
    refine WL_store_box_agg (cs' := [v4, (.int .i64 x6)]) (new := [v4, (.int .i64 x6)]) hC21 2 rfl rfl (by intro v hv; simp only [List.mem_cons, List.not_mem_nil, or_false] at hv; rcases hv with rfl | rfl; exact (ro_one (hC21.ro 1 rfl)); exact rfl) rfl Try.sizeOf73 rfl rfl (fun w12 hC22 => ?_)
    try dsimp only [List.set] at hC22
    refine WL_nil ?_
    refine W_ret ?_
    have hq2 := Option.some.inj hF
    subst hq2
    refine fn_retG1 rfl (rv_cell_agg (cs' := [v4, (.int .i64 x6)]) hC22 (i := 2) rfl rfl rfl Try.isAgg73 Try.sizeOf73 rfl) ?_
    have hC24 : Ctx [] w0 _ [Item.own v4 (x5 : (List (Int × (List Int)))), Item.box b3 [v4, (.int .i64 x6)], Item.box b2 [v4, (.int .i64 x6)]] := hC22.front 1 rfl
    have hC23 := own_st73 v4 x5 x6 hC24
    exact ⟨_, rfl, own_res hC23 0 rfl⟩

theorem c_Q_eqChangeS {w0 : World} (a1 : (List (Bool × (Int × (List Int))))) (u1 : Value) (g1 : RO [] w0 u1 a1) (a2 : (List (Bool × (Int × (List Int))))) (u2 : Value) (g2 : RO [] w0 u2 a2) (rr : Bool) (hF : Q.eqChangeS a1 a2 = some rr) :
    Calls Try.prog 57 [u1, u2].toArray w0 fun e w' => ∃ v, e = .returned v ∧ Res w0 rr v w' := by
  refine calls_of_W Try.func57 rfl rfl ?_
  have hC0 := Ctx.start w0
  unfold Q.eqChangeS at hF
  refine W_seq_reg ?_
  refine WL_assign rfl rfl ?_
  refine WL_nil ?_
  refine W_seq ?_
  refine W_seq_reg ?_
  refine WL_move rfl rfl ?_
  refine WL_len Try.underlying90 g1 rfl rfl ?_
  refine WL_move rfl rfl ?_
  refine WL_len Try.underlying90 g2 rfl rfl ?_
  refine WL_neq rfl rfl rfl ?_
  refine WL_nil ?_
  refine W_cond rfl (fun hc1 => ?_) (fun hc1 => ?_)
  · replace hF := ite_t hF hc1
    refine W_seq_reg ?_
    refine WL_assign rfl rfl ?_
    refine WL_nil ?_
    refine W_ret ?_
    refine nrm_ret ?_
    have hq1 := Option.some.inj hF
    subst hq1
    refine fn_ret1 rfl rfl ?_
    exact ⟨_, rfl, bool_res hC0 _⟩
  · replace hF := ite_f hF hc1
    refine W_skip ?_
    refine nrm_normal ?_
    refine W_seq ?_
    refine W_seq_reg ?_
    refine WL_assign rfl rfl ?_
    refine WL_nil ?_
    obtain ⟨r1, hr1, hF⟩ := bind_some hF
    refine W_norm (fun l w => .inl () = r1 ∧ l = [] ∧ Below w0.heap.size w0 w ∧ Ctx [] w0 w []) ?_ ?_
    · refine W_block ?_
      refine W.sub (l' := [(0, u1), (1, u2), (5, (.int .i64 0))]) ?_ ⟨rfl, rfl, rfl, trivial⟩
      refine W_loop (fun k l w => ∃ x1 : Int, l = [(0, u1), (1, u2), (5, (.int .i64 x1))] ∧ Below w0.heap.size w0 w ∧ Ctx [] w0 w [] ∧ Q.eqChangeS_l1 a1 a2 k x1 = some r1) FUEL ⟨0, rfl, (Below.refl _ _), hC0, hr1⟩ ?_
      clear hr1
      rintro k1 _ w1 ⟨x1, rfl, hB1, hC1, hL1⟩
      cases k1 with
      | zero => rw [Q.eqChangeS_l1] at hL1; cases hL1
      | succ k1 =>
        rw [Q.eqChangeS_l1] at hL1
        refine W_seq ?_
        refine W_seq_reg ?_
        refine WL_move rfl rfl ?_
        refine WL_move rfl rfl ?_
        refine WL_len Try.underlying90 g1 rfl rfl ?_
        refine WL_lss rfl rfl rfl ?_
        refine WL_nil ?_
        refine W_cond rfl (fun hc2 => ?_) (fun hc2 => ?_)
        · replace hL1 := ite_t hL1 hc2
          refine W_skip ?_
          refine nrm_normal ?_
          refine W_seq ?_
          refine W_block ?_
          refine W_seq ?_
          refine W_drawn 10 rfl hmix (fun w2 hB2 => ?_)
          have hC2 := hC1.grow hB2
          refine WA_take 0 rfl (by kernel_rfl) (by kernel_rfl) (by kernel_rfl) rfl (fl_move rfl) ?_
          refine WL_move rfl rfl ?_
          refine WL_nil ?_
          refine WA_take 1 rfl (by kernel_rfl) (by kernel_rfl) (by kernel_rfl) rfl (fl_move rfl) ?_
          refine WL_move rfl rfl ?_
          refine WL_nil ?_
          obtain ⟨x2, hx1, hL1⟩ := bind_some hL1
          refine WA_take 2 rfl (by kernel_rfl) (by kernel_rfl) (by kernel_rfl) rfl (fl_index Try.underlying90 ty79 g1 hx1 rfl rfl) ?_
          refine WL_index Try.underlying90 ty79 g1 hx1 rfl rfl rfl (fun b1 o1 h1 => ?_)
          refine WL_nil ?_
          refine WA_take 4 rfl (by kernel_rfl) (by kernel_rfl) (by kernel_rfl) rfl (fl_move rfl) ?_
          refine WL_move rfl rfl ?_
          refine WL_nil ?_
          refine WA_take 5 rfl (by kernel_rfl) (by kernel_rfl) (by kernel_rfl) rfl (fl_move rfl) ?_
          refine WL_move rfl rfl ?_
          refine WL_nil ?_
          obtain ⟨x3, hx2, hL1⟩ := bind_some hL1
          refine WA_take 6 rfl (by kernel_rfl) (by kernel_rfl) (by kernel_rfl) rfl (fl_index Try.underlying90 ty79 g2 hx2 rfl rfl) ?_
          refine WL_index Try.underlying90 ty79 g2 hx2 rfl rfl rfl (fun b2 o2 h2 => ?_)
          refine WL_nil ?_
          refine WA.sub (l' := [(0, u1), (1, u2), (5, (.int .i64 x1)), (11, (.int .i64 x1)), (12, u1), (13, (.int .i64 (List.length a1 : Int))), (14, (.bool (decide (x1 < (List.length a1 : Int))))), (17, u1), (18, (.int .i64 x1)), (19, (ptr b1 o1)), (21, u2), (22, (.int .i64 x1)), (23, (ptr b2 o2))]) ?_ ⟨rfl, rfl, rfl, rfl, rfl, rfl, rfl, rfl, rfl, rfl, rfl, rfl, rfl, trivial⟩
          refine WA_postsE [⟨3, [], fun vs => PW.ro [] w0 x2, []⟩, ⟨7, [], fun vs => PW.ro [] w0 x3, []⟩] [[], []] 2 rfl (by kernel_rfl) (by kernel_rfl) rfl ?_ ?_
          · refine StepsE_cons rfl ?_ ?_
            · intro w3 hB3
              refine DepsE_nil ?_
              refine ⟨_, rfl, ?_⟩
              refine WL_load ty79 h1 (hC2.keep.then hB3) rfl rfl (fun v3 h5 => ?_)
              refine WL_nil ?_
              exact FinE_val (Below.refl _ _) rfl rfl ⟨rfl, h5⟩
            refine StepsE_cons rfl ?_ ?_
            · intro w3 hB3
              refine DepsE_nil ?_
              refine ⟨_, rfl, ?_⟩
              refine WL_load ty79 h2 (hC2.keep.then hB3) rfl rfl (fun v6 h8 => ?_)
              refine WL_nil ?_
              exact FinE_val (Below.refl _ _) rfl rfl ⟨rfl, h8⟩
            exact StepsE_nil
          · intro w4 hB4
            refine AllE_cons rfl rfl rfl ?_
            rintro v3 _ ⟨rfl, h5⟩
            obtain ⟨v2, rfl, h4⟩ := ro_st79 h5
            refine AllE_cons rfl rfl rfl ?_
            rintro v6 _ ⟨rfl, h8⟩
            obtain ⟨v5, rfl, h7⟩ := ro_st79 h8
            refine AllE_nil ?_
            intro hn1 hb1
            have hC3 := hC2.grow hB4
            obtain ⟨x4, hr2, hL1⟩ := bind_some hL1
            refine WA_one 8 (by kernel_rfl) rfl ?_
            refine WL_call Try.call48 rfl rfl (c_Q_eqChange x2 v2 (h4.now hC3.keep) x3 v5 (h7.now hC3.keep) x4 hr2) ?_
            intro _ w5 hv1
            obtain ⟨rfl, hB5⟩ := res_bool hv1
            have hC4 := hC3.grow hB5
            refine WL_nil ?_
            refine WA_take 9 rfl (by kernel_rfl) (by kernel_rfl) (by kernel_rfl) rfl (fl_not rfl) ?_
            refine WL_not rfl rfl ?_
            refine WL_nil ?_
            refine WA_done (by kernel_rfl) ?_
            refine nrm_normal ?_
            refine W_cond rfl (fun hc3 => ?_) (fun hc3 => ?_)
            · replace hL1 := ite_t hL1 hc3
              refine W_seq_reg ?_
              refine WL_assign rfl rfl ?_
              refine WL_nil ?_
              refine W_ret ?_
              refine blk_ret ?_
              refine nrm_ret ?_
              refine nrm_ret ?_
              refine blk_ret ?_
              refine nrm_ret ?_
              refine nrm_ret ?_
              have hq2 := Option.some.inj hL1
              subst hq2
              dsimp only at hF
              have hq3 := Option.some.inj hF
              subst hq3
              refine fn_ret1 rfl rfl ?_
              exact ⟨_, rfl, bool_res hC4 _⟩
            · replace hL1 := ite_f hL1 hc3
              refine W_skip ?_
              refine blk_normal ?_
              refine nrm_normal ?_
              refine W_reg ?_
              refine WL_move rfl rfl ?_
              refine WL_add rfl rfl rfl ?_
              refine WL_assign rfl rfl ?_
              refine WL_nil ?_
              refine nrm_sub (l' := [(0, u1), (1, u2), (5, (.int .i64 (w64 (x1 + 1))))]) ⟨rfl, rfl, rfl, trivial⟩ ?_
              exact ⟨k1, Nat.lt_succ_self _, w64 (x1 + 1), rfl, ((((Keep.of hB1).then hB2).then hB4).then hB5).below, hC4, hL1⟩
        · replace hL1 := ite_f hL1 hc2
          refine W_exit ?_
          refine nrm_exit ?_
          refine nrm_exit ?_
          refine blk_exit ?_
          have hq4 := Option.some.inj hL1
          subst hq4
          refine nrm_sub (l' := []) trivial ?_
          exact ⟨rfl, rfl, (Keep.of hB1).below, hC1⟩
    · rintro l2 _ w6 hs2 ⟨rfl, rfl, hB6, hC5⟩
      try dsimp only at hF
      refine nrm_sub' hs2 ?_
      clear hs2
      refine W_seq_reg ?_
      refine WL_assign rfl rfl ?_
      refine WL_nil ?_
      refine W_ret ?_
      have hq5 := Option.some.inj hF
      subst hq5
      refine fn_ret1 rfl rfl ?_
      exact ⟨_, rfl, bool_res hC5 _⟩

theorem c_Q_markChangeS {w0 : World} {Fs : List (List Nat)} (a1 : (List (Bool × (Int × (List Int))))) (u1 : Value) (a2 : Int) (hH : Hold [Item.own u1 (a1 : (List (Bool × (Int × (List Int)))))] w0 Fs) (hn : Fs.flatten.Nodup) (rr : (Int × (List (Bool × (Int × (List Int)))))) (hF : Q.markChangeS a1 a2 = some rr) :
    Calls Try.prog 58 [u1, (.int .i64 a2)].toArray w0 fun e w' => ∃ v, e = .returned v ∧ v = (.int .i64 rr.1) ∧ Ctx Fs.flatten w0 w' [Item.own u1 (rr.2 : (List (Bool × (Int × (List Int)))))] := by
  refine calls_of_W Try.func58 rfl rfl ?_
  have hC0 := Ctx.startIn hH hn
  unfold Q.markChangeS at hF
  refine W_seq_reg ?_
  refine WL_assign rfl rfl ?_
  refine WL_nil ?_
  refine W_seq ?_
  refine W_seq_reg ?_
  refine WL_assign rfl rfl ?_
  refine WL_nil ?_
  obtain ⟨r1, hr1, hF⟩ := bind_some hF
  refine W_norm (fun l w => ∃ x4 : (List (Bool × (Int × (List Int)))), ∃ x5 : Int, (x4, x5) = r1 ∧ l = [(1, (.int .i64 x5))] ∧ Ctx Fs.flatten w0 w [Item.own u1 (x4 : (List (Bool × (Int × (List Int)))))]) ?_ ?_
  · refine W_block ?_
    refine W.sub (l' := [(0, u1), (1, (.int .i64 a2)), (5, (.int .i64 0))]) ?_ ⟨rfl, rfl, rfl, trivial⟩
    refine W_loop (fun k l w => ∃ x1 : (List (Bool × (Int × (List Int)))), ∃ x2 : Int, ∃ x3 : Int, l = [(0, u1), (1, (.int .i64 x2)), (5, (.int .i64 x3))] ∧ Ctx Fs.flatten w0 w [Item.own u1 (x1 : (List (Bool × (Int × (List Int)))))] ∧ Q.markChangeS_l1 k x1 x2 x3 = some r1) FUEL ⟨a1, a2, 0, rfl, hC0, hr1⟩ ?_
    clear hr1
    rintro k1 _ w1 ⟨x1, x2, x3, rfl, hC1, hL1⟩
    cases k1 with
    | zero => rw [Q.markChangeS_l1] at hL1; cases hL1
    | succ k1 =>
      rw [Q.markChangeS_l1] at hL1
      refine W_seq ?_
      refine W_seq_reg ?_
      refine WL_move rfl rfl ?_
      refine WL_move rfl rfl ?_
      refine WL_len Try.underlying90 (hC1.ro 0 rfl) rfl rfl ?_
      refine WL_lss rfl rfl rfl ?_
      refine WL_nil ?_
      refine W_cond rfl (fun hc1 => ?_) (fun hc1 => ?_)
      · replace hL1 := ite_t hL1 hc1
        refine W_skip ?_
        refine nrm_normal ?_
        refine W_seq ?_
        refine W_block ?_
        refine W_seq_reg ?_
        refine WL_move rfl rfl ?_
        refine WL_move rfl rfl ?_
        refine WL_move rfl rfl ?_
        refine WL_rem (by decide) rfl rfl rfl ?_
        refine WL_eql rfl rfl rfl ?_
        obtain ⟨x6, hx1, hL1⟩ := bind_some hL1
        refine WL_index_own hC1 0 rfl Try.underlying90 ty79 hx1 rfl rfl rfl (fun b1 hE1 => ?_)
        refine WL_field Try.underlying79 rfl rfl (fun w => ⟨_, Try.sizeOf4 w⟩) rfl rfl ?_
        obtain ⟨cs1, hC3⟩ := hC1.openElem hx1
        obtain ⟨v1, he1, hC4⟩ := st79_own (hC3.cellsOwn rfl)
        obtain rfl := cells_of_agg he1
        refine WL_store_hole (fo := 0) (cs' := [(.bool (decide ((x2.tmod 3) = 0))), (.int .i64 x6.2.1), v1]) hC4 1 rfl hE1 rfl rfl rfl rfl Try.sizeOf4 rfl rfl (fun w2 hC2 => ?_)
        try dsimp only [List.set] at hC2
        have hC5 : Ctx Fs.flatten w0 _ [Item.hole u1 (x1 : (List (Bool × (Int × (List Int))))) (Int.toNat x3) [(.bool (decide ((x2.tmod 3) = 0))), (.int .i64 x6.2.1), v1], Item.own v1 (x6.2.2 : (List Int))] := hC2.front 1 rfl
        have hC7 : Ctx Fs.flatten w0 _ [Item.own v1 (x6.2.2 : (List Int)), Item.hole u1 (x1 : (List (Bool × (Int × (List Int))))) (Int.toNat x3) [(.bool (decide ((x2.tmod 3) = 0))), (.int .i64 x6.2.1), v1]] := hC5.front 1 rfl
        have hC6 := own_st79 (decide ((x2.tmod 3) = 0)) x6.2.1 v1 x6.2.2 hC7
        have hC8 := hC6.ownCells.closeElem
        refine WL_nil ?_
        refine W_seq_reg ?_
        refine WL_move rfl rfl ?_
        refine WL_add rfl rfl rfl ?_
        refine WL_assign rfl rfl ?_
        refine WL_nil ?_
        refine W_seq_reg ?_
        refine WL_move rfl rfl ?_
        refine WL_move rfl rfl ?_
        refine WL_move rfl rfl ?_
        obtain ⟨x7, hx2, hL1⟩ := bind_some hL1
        refine WL_index_own hC8 0 rfl Try.underlying90 ty79 hx2 rfl rfl rfl (fun b2 hE2 => ?_)
        refine WL_field Try.underlying79 rfl rfl (fun w => ⟨_, Try.sizeOf77 w⟩) rfl rfl ?_
        refine WL_field Try.underlying77 rfl rfl (fun w => ⟨_, Try.sizeOf3 w⟩) rfl rfl ?_
        obtain ⟨cs2, hC10⟩ := hC8.openElem hx2
        obtain ⟨v2, he2, hC11⟩ := st79_own (hC10.cellsOwn rfl)
        obtain rfl := cells_of_agg he2
        refine WL_store_hole (fo := 1) (cs' := [(.bool x7.1), (.int .i64 (w64 (x2 + 1))), v2]) hC11 1 rfl hE2 rfl rfl rfl rfl Try.sizeOf3 rfl rfl (fun w3 hC9 => ?_)
        try dsimp only [List.set] at hC9
        have hC12 : Ctx Fs.flatten w0 _ [Item.hole u1 ((List.set x1 (Int.toNat x3) ((decide ((x2.tmod 3) = 0)), (x6.2.1, x6.2.2))) : (List (Bool × (Int × (List Int))))) (Int.toNat x3) [(.bool x7.1), (.int .i64 (w64 (x2 + 1))), v2], Item.own v2 (x7.2.2 : (List Int))] := hC9.front 1 rfl
        have hC14 : Ctx Fs.flatten w0 _ [Item.own v2 (x7.2.2 : (List Int)), Item.hole u1 ((List.set x1 (Int.toNat x3) ((decide ((x2.tmod 3) = 0)), (x6.2.1, x6.2.2))) : (List (Bool × (Int × (List Int))))) (Int.toNat x3) [(.bool x7.1), (.int .i64 (w64 (x2 + 1))), v2]] := hC12.front 1 rfl
        have hC13 := own_st79 x7.1 (w64 (x2 + 1)) v2 x7.2.2 hC14
        have hC15 := hC13.ownCells.closeElem
        refine WL_nil ?_
        refine W_seq_reg ?_
        refine WL_move rfl rfl ?_
        refine WL_add rfl rfl rfl ?_
        refine WL_assign rfl rfl ?_
        refine WL_nil ?_
        refine W_reg ?_
        refine WL_move rfl rfl ?_
        refine WL_move rfl rfl ?_
        obtain ⟨x8, hx3, hL1⟩ := bind_some hL1
        refine WL_index_own hC15 0 rfl Try.underlying90 ty79 hx3 rfl rfl rfl (fun b3 hE3 => ?_)
        refine WL_field Try.underlying79 rfl rfl (fun w => ⟨_, Try.sizeOf77 w⟩) rfl rfl ?_
        refine WL_field Try.underlying77 rfl rfl (fun w => ⟨_, Try.sizeOf22 w⟩) rfl rfl ?_
        obtain ⟨cs3, hC16⟩ := hC15.openElem hx3
        obtain ⟨v3, he3, hC17⟩ := st79_own (hC16.cellsOwn rfl)
        obtain rfl := cells_of_agg he3
        refine WL_load_hole (fo := 2) hC17 1 rfl hE3 rfl rfl Try.isAgg22 rfl rfl ?_
        refine WL_move rfl rfl ?_
        obtain ⟨x9, hr2, hL1⟩ := bind_some hL1
        obtain ⟨Fs1, hH1, hn1, hF1, hO1, hb1⟩ := Ctx.lend2 (As := [Item.hole u1 ((List.set (List.set x1 (Int.toNat x3) ((decide ((x2.tmod 3) = 0)), (x6.2.1, x6.2.2))) (Int.toNat x3) (x7.1, (w64 (x2 + 1), x7.2.2))) : (List (Bool × (Int × (List Int))))) (Int.toNat x3) [(.bool x8.1), (.int .i64 x8.2.1), v3]]) [Item.own v3 (x8.2.2 : (List Int))] hC17
        refine WL_call Try.call49 rfl rfl (c_Q_markIntS x8.2.2 v3 (w64 ((w64 (x2 + 1)) + 1)) hH1 hn1 x9 hr2) ?_
        rintro _ w4 ⟨rfl, hq1⟩
        have hC19 : Ctx Fs.flatten w0 w4 [Item.own v3 (x9.2 : (List Int)), Item.hole u1 ((List.set (List.set x1 (Int.toNat x3) ((decide ((x2.tmod 3) = 0)), (x6.2.1, x6.2.2))) (Int.toNat x3) (x7.1, (w64 (x2 + 1), x7.2.2))) : (List (Bool × (Int × (List Int))))) (Int.toNat x3) [(.bool x8.1), (.int .i64 x8.2.1), v3]] := hb1 _ _ hq1
        have hC20 : Ctx Fs.flatten w0 _ [Item.hole u1 ((List.set (List.set x1 (Int.toNat x3) ((decide ((x2.tmod 3) = 0)), (x6.2.1, x6.2.2))) (Int.toNat x3) (x7.1, (w64 (x2 + 1), x7.2.2))) : (List (Bool × (Int × (List Int))))) (Int.toNat x3) [(.bool x8.1), (.int .i64 x8.2.1), v3], Item.own v3 (x9.2 : (List Int))] := hC19.front 1 rfl
        have hC22 : Ctx Fs.flatten w0 _ [Item.own v3 (x9.2 : (List Int)), Item.hole u1 ((List.set (List.set x1 (Int.toNat x3) ((decide ((x2.tmod 3) = 0)), (x6.2.1, x6.2.2))) (Int.toNat x3) (x7.1, (w64 (x2 + 1), x7.2.2))) : (List (Bool × (Int × (List Int))))) (Int.toNat x3) [(.bool x8.1), (.int .i64 x8.2.1), v3]] := hC20.front 1 rfl
        have hC21 := own_st79 x8.1 x8.2.1 v3 x9.2 hC22
        have hC23 := hC21.ownCells.closeElem
        refine WL_assign rfl rfl ?_
        refine WL_nil ?_
        refine blk_normal ?_
        refine nrm_normal ?_
        refine W_reg ?_
        refine WL_move rfl rfl ?_
        refine WL_add rfl rfl rfl ?_
        refine WL_assign rfl rfl ?_
        refine WL_nil ?_
        refine nrm_sub (l' := [(0, u1), (1, (.int .i64 x9.1)), (5, (.int .i64 (w64 (x3 + 1))))]) ⟨rfl, rfl, rfl, trivial⟩ ?_
        exact ⟨k1, Nat.lt_succ_self _, (List.set (List.set (List.set x1 (Int.toNat x3) ((decide ((x2.tmod 3) = 0)), (x6.2.1, x6.2.2))) (Int.toNat x3) (x7.1, (w64 (x2 + 1), x7.2.2))) (Int.toNat x3) (x8.1, (x8.2.1, x9.2))), x9.1, w64 (x3 + 1), rfl, hC23, hL1⟩
      · replace hL1 := ite_f hL1 hc1
        refine W_exit ?_
        refine nrm_exit ?_
        refine nrm_exit ?_
        refine blk_exit ?_
        have hq2 := Option.some.inj hL1
        subst hq2
        refine nrm_sub (l' := [(1, (.int .i64 x2))]) ⟨rfl, trivial⟩ ?_
        exact ⟨x1, x2, rfl, rfl, hC1⟩
  · rintro l2 _ w5 hs2 ⟨x4, x5, rfl, rfl, hC24⟩
    try dsimp only at hF
    refine nrm_sub' hs2 ?_
    clear hs2
    refine W_seq_reg ?_
    refine WL_move rfl rfl ?_
    refine WL_assign rfl rfl ?_
    refine WL_nil ?_
    refine W_ret ?_
    have hq3 := Option.some.inj hF
    subst hq3
    refine fn_ret1 rfl rfl ?_
    exact ⟨_, rfl, rfl, hC24⟩

end Go.Gx.Px
