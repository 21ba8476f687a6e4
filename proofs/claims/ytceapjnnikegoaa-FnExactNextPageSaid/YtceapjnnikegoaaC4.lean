/- The contracts of the Go functions against the pure functions, printed by program. Conditions: each says them. -/
import Derived.Test.YtceapjnnikegoaaC3
set_option linter.unusedVariables false
set_option linter.unusedSimpArgs false
set_option maxRecDepth 100000
set_option maxHeartbeats 4000000
namespace Go.Gx.Px
open Go.Proofs Go.RowKit

theorem c_Q_FnExactNextPage {w0 : World} (a1 : (List Int)) (u1 : Value) (g1 : RO [] w0 u1 a1) (a2 : (List (Int × (List Int) × Int × Int × Int))) (u2 : Value) (g2 : RO [] w0 u2 a2) (a3 : ((List (Int × (List Int))) × Int)) (u3 : Value) (g3 : RO [] w0 u3 a3.1) (a4 : ((Int × (List Int)) × Int × Int)) (u4 : Value) (g4 : RO [] w0 u4 a4.1.2) (a5 : Int) (rr : Bool) (hF : Q.FnExactNextPage a1 a2 a3 a4 a5 = some rr) :
    Calls Try.prog 3 [u1, u2, (.agg #[u3, (.int .i64 a3.2)]), (.agg #[(.int .i64 a4.1.1), u4, (.int .i64 a4.2.1), (.int .i64 a4.2.2)]), (.int .i64 a5)].toArray w0 fun e w' => ∃ v, e = .returned v ∧ Res w0 rr v w' := by
  refine calls_of_W Try.func3 rfl rfl ?_
  have hC0 := Ctx.start w0
  unfold Q.FnExactNextPage at hF
  refine W_seq_reg ?_
  refine WL_box (cs := [u3, (.int .i64 a3.2)]) hC0 rfl rfl rfl (fun b1 w1 hC1 hB1 => ?_)
  refine WL_box (cs := [(.int .i64 a4.1.1), u4, (.int .i64 a4.2.1), (.int .i64 a4.2.2)]) hC1 rfl rfl rfl (fun b2 w2 hC2 hB2 => ?_)
  refine WL_assign rfl rfl ?_
  refine WL_nil ?_
  refine W_seq ?_
  refine W_seq_reg ?_
  refine WL_move rfl rfl ?_
  refine WL_len Try.underlying22 g1 rfl rfl ?_
  refine WL_gtr rfl rfl rfl ?_
  refine WL_nil ?_
  refine W_cond rfl (fun hc1 => ?_) (fun hc1 => ?_)
  · replace hF := ite_t hF hc1
    refine W_seq_reg ?_
    refine WL_assign rfl rfl ?_
    refine WL_nil ?_
    refine W_ret ?_
    refine nrm_ret ?_
    have hq1 := Option.some.inj hF
    subst hq1
    refine fn_ret1 rfl rfl ?_
    exact ⟨_, rfl, bool_res hC2 _⟩
  · replace hF := ite_f hF hc1
    refine W_skip ?_
    refine nrm_normal ?_
    refine W_seq_reg ?_
    refine WL_assign rfl rfl ?_
    refine WL_nil ?_
    refine W_seq_reg ?_
    refine WL_move rfl rfl ?_
    refine WL_move rfl rfl ?_
    obtain ⟨x1, hr1, hF⟩ := bind_some hF
    refine WL_call Try.call4 rfl rfl (c_Q_szMethodS a2 u2 (g2.now hC2.keep) 1048576 x1 hr1) ?_
    intro _ w3 hv1
    obtain ⟨rfl, hB3⟩ := res_int hv1
    have hC3 := hC2.grow hB3
    refine WL_assign rfl rfl ?_
    refine WL_nil ?_
    refine W_seq ?_
    refine W_seq_reg ?_
    refine WL_move rfl rfl ?_
    refine WL_lss rfl rfl rfl ?_
    refine WL_nil ?_
    refine W_cond rfl (fun hc2 => ?_) (fun hc2 => ?_)
    · replace hF := ite_t hF hc2
      refine W_seq_reg ?_
      refine WL_assign rfl rfl ?_
      refine WL_nil ?_
      refine W_ret ?_
      refine nrm_ret ?_
      have hq2 := Option.some.inj hF
      subst hq2
      refine fn_ret1 rfl rfl ?_
      exact ⟨_, rfl, bool_res hC3 _⟩
    · replace hF := ite_f hF hc2
      refine W_skip ?_
      refine nrm_normal ?_
      refine W_seq_reg ?_
      refine WL_load_box_agg [u3, (.int .i64 a3.2)] hC3 1 rfl rfl rfl Try.isAgg26 Try.sizeOf26 rfl rfl ?_
      refine WL_move rfl rfl ?_
      obtain ⟨x2, hr2, hF⟩ := bind_some hF
      refine WL_call Try.call5 rfl rfl (c_Q_szSource (a3.1, a3.2) u3 (g3.now hC3.keep) x1 x2 hr2) ?_
      intro _ w4 hv2
      obtain ⟨rfl, hB4⟩ := res_int hv2
      have hC4 := hC3.grow hB4
      refine WL_assign rfl rfl ?_
      refine WL_nil ?_
      refine W_seq ?_
      refine W_seq_reg ?_
      refine WL_move rfl rfl ?_
      refine WL_lss rfl rfl rfl ?_
      refine WL_nil ?_
      refine W_cond rfl (fun hc3 => ?_) (fun hc3 => ?_)
      · replace hF := ite_t hF hc3
        refine W_seq_reg ?_
        refine WL_assign rfl rfl ?_
        refine WL_nil ?_
        refine W_ret ?_
        refine nrm_ret ?_
        have hq3 := Option.some.inj hF
        subst hq3
        refine fn_ret1 rfl rfl ?_
        exact ⟨_, rfl, bool_res hC4 _⟩
      · replace hF := ite_f hF hc3
        refine W_skip ?_
        refine nrm_normal ?_
        refine W_seq_reg ?_
        refine WL_load_box_agg [(.int .i64 a4.1.1), u4, (.int .i64 a4.2.1), (.int .i64 a4.2.2)] hC4 0 rfl rfl rfl Try.isAgg30 Try.sizeOf30 rfl rfl ?_
        refine WL_move rfl rfl ?_
        obtain ⟨x3, hr3, hF⟩ := bind_some hF
        refine WL_call Try.call6 rfl rfl (c_Q_szCursor ((a4.1.1, a4.1.2), a4.2.1, a4.2.2) u4 (g4.now hC4.keep) x2 x3 hr3) ?_
        intro _ w5 hv3
        obtain ⟨rfl, hB5⟩ := res_int hv3
        have hC5 := hC4.grow hB5
        refine WL_assign rfl rfl ?_
        refine WL_nil ?_
        refine W_seq ?_
        refine W_seq_reg ?_
        refine WL_move rfl rfl ?_
        refine WL_lss rfl rfl rfl ?_
        refine WL_nil ?_
        refine W_cond rfl (fun hc4 => ?_) (fun hc4 => ?_)
        · replace hF := ite_t hF hc4
          refine W_seq_reg ?_
          refine WL_assign rfl rfl ?_
          refine WL_nil ?_
          refine W_ret ?_
          refine nrm_ret ?_
          have hq4 := Option.some.inj hF
          subst hq4
          refine fn_ret1 rfl rfl ?_
          exact ⟨_, rfl, bool_res hC5 _⟩
        · replace hF := ite_f hF hc4
          refine W_skip ?_
          refine nrm_normal ?_
          obtain ⟨r1, hr4, hF⟩ := bind_some hF
          refine W_cut (fun l w => ∃ v1 : Value, ∃ x4 : (List (Int × (List Int))), ∃ x5 : Int, ∃ b3 : Nat, ∃ x6 : Int, ∃ v2 : Value, ∃ x7 : (List Int), ∃ x8 : Int, ∃ x9 : Int, (x4, x5, x6, x7, x8, x9) = r1 ∧ l = [(0, u1), (1, u2), (4, (.int .i64 a5)), (7, (ptr b1 0)), (8, (ptr b2 0)), (12, v1), (13, (ptr b3 0)), (14, (.int .i64 x5))] ∧ Ctx [] w0 w [Item.box b3 [(.int .i64 x6), v2, (.int .i64 x8), (.int .i64 x9)], Item.own v2 (x7 : (List Int)), Item.own v1 (x4 : (List (Int × (List Int)))), Item.box b2 [(.int .i64 a4.1.1), u4, (.int .i64 a4.2.1), (.int .i64 a4.2.2)], Item.box b1 [u3, (.int .i64 a3.2)]]) ?_ ?_
          · refine W_drawn 18 rfl hmix (fun w7 hB7 => ?_)
            have hC7 := hC5.grow hB7
            refine WA_take 0 rfl (by kernel_rfl) (by kernel_rfl) (by kernel_rfl) rfl (fl_move rfl) ?_
            refine WL_move rfl rfl ?_
            refine WL_nil ?_
            refine WA_take 2 rfl (by kernel_rfl) (by kernel_rfl) (by kernel_rfl) rfl (fl_move rfl) ?_
            refine WL_move rfl rfl ?_
            refine WL_nil ?_
            refine WA_take 8 rfl (by kernel_rfl) (by kernel_rfl) (by kernel_rfl) rfl (fl_move rfl) ?_
            refine WL_move rfl rfl ?_
            refine WL_nil ?_
            obtain ⟨x10, hr5, hr4⟩ := bind_some hr4
            obtain ⟨x11, hr6, hr4⟩ := bind_some hr4
            obtain ⟨x12, hr7, hr4⟩ := bind_some hr4
            obtain ⟨x13, hr8, hr4⟩ := bind_some hr4
            obtain ⟨x14, hr9, hr4⟩ := bind_some hr4
            refine WA.sub (l' := [(0, u1), (1, u2), (2, (.agg #[u3, (.int .i64 a3.2)])), (3, (.agg #[(.int .i64 a4.1.1), u4, (.int .i64 a4.2.1), (.int .i64 a4.2.2)])), (4, (.int .i64 a5)), (7, (ptr b1 0)), (8, (ptr b2 0)), (10, (.bool false)), (11, (.int .i64 x3)), (28, u1), (29, (.int .i64 (List.length a1 : Int))), (30, (.bool (decide (1048576 < (List.length a1 : Int))))), (31, u2), (32, (.int .i64 1048576)), (33, (.int .i64 x1)), (34, (.int .i64 x1)), (35, (.bool (decide (x1 < 0)))), (36, (.agg #[u3, (.int .i64 a3.2)])), (37, (.int .i64 x1)), (38, (.int .i64 x2)), (39, (.int .i64 x2)), (40, (.bool (decide (x2 < 0)))), (41, (.agg #[(.int .i64 a4.1.1), u4, (.int .i64 a4.2.1), (.int .i64 a4.2.2)])), (42, (.int .i64 x2)), (43, (.int .i64 x3)), (44, (.int .i64 x3)), (45, (.bool (decide (x3 < 0)))), (47, u1), (49, u2), (55, (.int .i64 a5))]) ?_ ⟨rfl, rfl, rfl, rfl, rfl, rfl, rfl, rfl, rfl, rfl, rfl, rfl, rfl, rfl, rfl, rfl, rfl, rfl, rfl, rfl, rfl, rfl, rfl, rfl, rfl, rfl, rfl, rfl, rfl, rfl, trivial⟩
            refine WA_postsO [⟨1, [], fun vs => PW.own x10, []⟩, ⟨3, [], fun vs => PW.own x11, []⟩, ⟨4, [], fun vs => PW.val (.agg #[u3, (.int .i64 a3.2)]), []⟩, ⟨5, [], fun vs => PW.own x12, []⟩, ⟨6, [], fun vs => PW.val (.agg #[(.int .i64 a4.1.1), u4, (.int .i64 a4.2.1), (.int .i64 a4.2.2)]), []⟩, ⟨7, [], fun vs => PW.own x13, []⟩, ⟨9, [], fun vs => PW.own3 (x14.1 : (List (Int × (List Int)))) (x14.2.1 : ((Int × (List Int)) × Int × Int)) (x14.2.2 : Int), []⟩, ⟨10, [56], fun vs => PW.val (vs.getD 0 undef), []⟩, ⟨11, [46], fun vs => PW.comp (vs.getD 0 undef) 0, []⟩, ⟨12, [46], fun vs => PW.comp (vs.getD 0 undef) 1, []⟩, ⟨13, [46], fun vs => PW.comp (vs.getD 0 undef) 2, []⟩, ⟨14, [], fun vs => PW.box [(.int .i64 0), (.slice none 0 0), (.int .i64 0), (.int .i64 0)], []⟩, ⟨15, [57], fun vs => PW.val (vs.getD 0 undef), []⟩] [[], [], [], [4], [], [6], [1, 3, 5, 7], [9], [9, 10], [9, 10], [9, 10], [], [9, 10, 11]] [13] 2 rfl (by kernel_rfl) (by kernel_rfl) ?_ ⟨?_, ?_, trivial⟩
            · refine StepsE_cons rfl ?_ ?_
              · intro w14 hB14
                refine DepsE_nil ?_
                refine ⟨_, rfl, ?_⟩
                refine WL_call Try.call8 rfl rfl (c_Q_toIntS a1 u1 (g1.now (hC7.keep.then hB14)) x10 hr5) ?_
                rintro v3 w8 ⟨hB8, F1, hv4, hn1, hb1⟩
                refine WL_nil ?_
                exact FinE_own hB8 rfl rfl hv4 hn1 hb1 (Val.inh hv4)
              refine StepsE_cons rfl ?_ ?_
              · intro w14 hB14
                refine DepsE_nil ?_
                refine ⟨_, rfl, ?_⟩
                refine WL_call Try.call9 rfl rfl (c_Q_toMethodS a2 u2 (g2.now (hC7.keep.then hB14)) x11 hr6) ?_
                rintro v4 w9 ⟨hB9, F2, hv5, hn2, hb2⟩
                refine WL_nil ?_
                exact FinE_own hB9 rfl rfl hv5 hn2 hb2 (Val.inh hv5)
              refine StepsE_cons rfl ?_ ?_
              · intro w14 hB14
                refine DepsE_nil ?_
                refine ⟨_, rfl, ?_⟩
                refine WL_load_box_agg [u3, (.int .i64 a3.2)] (hC7.grow hB14) 1 rfl rfl rfl Try.isAgg26 Try.sizeOf26 rfl rfl ?_
                refine WL_nil ?_
                exact FinE_val (Below.refl _ _) rfl rfl ⟨rfl, rfl⟩
              refine StepsE_cons rfl ?_ ?_
              · intro w14 hB14
                refine DepsE_cons rfl rfl rfl ?_
                rintro _ _ ⟨rfl, rfl⟩ _
                refine DepsE_nil ?_
                refine ⟨_, rfl, ?_⟩
                refine WL_call Try.call10 rfl rfl (c_Q_toSource (a3.1, a3.2) u3 (g3.now (hC7.keep.then hB14)) x12 hr7) ?_
                rintro v5 w10 ⟨hB10, F3, hv6, hn3, hb3⟩
                refine WL_nil ?_
                exact FinE_own hB10 rfl rfl hv6 hn3 hb3 (Val.inh hv6)
              refine StepsE_cons rfl ?_ ?_
              · intro w14 hB14
                refine DepsE_nil ?_
                refine ⟨_, rfl, ?_⟩
                refine WL_load_box_agg [(.int .i64 a4.1.1), u4, (.int .i64 a4.2.1), (.int .i64 a4.2.2)] (hC7.grow hB14) 0 rfl rfl rfl Try.isAgg30 Try.sizeOf30 rfl rfl ?_
                refine WL_nil ?_
                exact FinE_val (Below.refl _ _) rfl rfl ⟨rfl, rfl⟩
              refine StepsE_cons rfl ?_ ?_
              · intro w14 hB14
                refine DepsE_cons rfl rfl rfl ?_
                rintro _ _ ⟨rfl, rfl⟩ _
                refine DepsE_nil ?_
                refine ⟨_, rfl, ?_⟩
                refine WL_call Try.call11 rfl rfl (c_Q_toCursor ((a4.1.1, a4.1.2), a4.2.1, a4.2.2) u4 (g4.now (hC7.keep.then hB14)) x13 hr8) ?_
                rintro v7 w11 ⟨hB11, F4, hv7, hn4, hb4⟩
                refine WL_nil ?_
                exact FinE_own hB11 rfl rfl hv7 hn4 hb4 (Val.inh hv7)
              refine StepsE_cons rfl ?_ ?_
              · intro w14 hB14
                refine DepsE_cons rfl rfl rfl ?_
                intro v3 F1 hv4 _
                refine DepsE_cons rfl rfl rfl ?_
                intro v4 F2 hv5 _
                refine DepsE_cons rfl rfl rfl ?_
                intro v5 F3 hv6 _
                obtain ⟨v6, rfl, h1⟩ := ro_st44 (ro_of_own hv6)
                refine DepsE_cons rfl rfl rfl ?_
                intro v7 F4 hv7 _
                obtain ⟨v8, rfl, h2⟩ := ro_st37 (ro_of_own hv7)
                refine DepsE_nil ?_
                refine ⟨_, rfl, ?_⟩
                refine WL_call Try.call7 rfl rfl (c_S_NextPage x10 v3 (ro_of_own hv4) x11 v4 (ro_of_own hv5) x12 v6 (h1.now (Keep.refl _ _)) x13 v8 (h2.now (Keep.refl _ _)) a5 x14 hr9) ?_
                rintro _ w12 ⟨hB12, v9, v10, v11, F5, F6, F7, rfl, hv8, hv9, hv10, hn5, hb5⟩
                refine WL_nil ?_
                exact FinE_own (F := F5 ++ (F6 ++ F7)) hB12 rfl rfl ⟨_, _, _, _, _, _, rfl, rfl, hv8, hv9, hv10⟩ (by simpa using hn5) (fun b h => hb5 b (by simpa using h)) (fun b h => by simp only [List.mem_append] at h; rcases h with h | h | h; exact Val.inh hv8 b h; exact Val.inh hv9 b h; exact Val.inh hv10 b h)
              refine StepsE_cons rfl ?_ ?_
              · intro w14 hB14
                refine DepsE_cons rfl rfl rfl ?_
                rintro _ _ ⟨v9, v10, v11, F5, F6, F7, rfl, rfl, hv8, hv9, hv10⟩ _
                obtain ⟨rfl, rfl⟩ := val_int hv10
                obtain ⟨v12, rfl, h3⟩ := ro_st37 (ro_of_own hv9)
                refine DepsE_nil ?_
                refine ⟨_, rfl, ?_⟩
                refine WL_move rfl rfl ?_
                refine WL_nil ?_
                exact FinE_val (Below.refl _ _) rfl rfl ⟨rfl, rfl⟩
              refine StepsE_cons rfl ?_ ?_
              · intro w14 hB14
                refine DepsE_cons rfl rfl rfl ?_
                rintro _ _ ⟨v9, v10, v11, F5, F6, F7, rfl, rfl, hv8, hv9, hv10⟩ _
                obtain ⟨rfl, rfl⟩ := val_int hv10
                obtain ⟨v12, rfl, h3⟩ := ro_st37 (ro_of_own hv9)
                refine DepsE_cons rfl rfl rfl ?_
                rintro _ _ ⟨rfl, rfl⟩ _
                refine DepsE_nil ?_
                refine ⟨_, rfl, ?_⟩
                refine WL_extract rfl rfl rfl ?_
                refine WL_nil ?_
                exact FinE_val (Below.refl _ _) rfl rfl ⟨⟨_, rfl, rfl⟩, rfl⟩
              refine StepsE_cons rfl ?_ ?_
              · intro w14 hB14
                refine DepsE_cons rfl rfl rfl ?_
                rintro _ _ ⟨v9, v10, v11, F5, F6, F7, rfl, rfl, hv8, hv9, hv10⟩ _
                obtain ⟨rfl, rfl⟩ := val_int hv10
                obtain ⟨v12, rfl, h3⟩ := ro_st37 (ro_of_own hv9)
                refine DepsE_cons rfl rfl rfl ?_
                rintro _ _ ⟨rfl, rfl⟩ _
                refine DepsE_nil ?_
                refine ⟨_, rfl, ?_⟩
                refine WL_extract rfl rfl rfl ?_
                refine WL_nil ?_
                exact FinE_val (Below.refl _ _) rfl rfl ⟨⟨_, rfl, rfl⟩, rfl⟩
              refine StepsE_cons rfl ?_ ?_
              · intro w14 hB14
                refine DepsE_cons rfl rfl rfl ?_
                rintro _ _ ⟨v9, v10, v11, F5, F6, F7, rfl, rfl, hv8, hv9, hv10⟩ _
                obtain ⟨rfl, rfl⟩ := val_int hv10
                obtain ⟨v12, rfl, h3⟩ := ro_st37 (ro_of_own hv9)
                refine DepsE_cons rfl rfl rfl ?_
                rintro _ _ ⟨rfl, rfl⟩ _
                refine DepsE_nil ?_
                refine ⟨_, rfl, ?_⟩
                refine WL_extract rfl rfl rfl ?_
                refine WL_nil ?_
                exact FinE_val (Below.refl _ _) rfl rfl ⟨⟨_, rfl, rfl⟩, rfl⟩
              refine StepsE_cons rfl ?_ ?_
              · intro w14 hB14
                refine DepsE_nil ?_
                refine ⟨_, rfl, ?_⟩
                refine WL_alloc (Ctx.start _) zero37 rfl rfl (fun b4 w13 hC8 hB13 => ?_)
                refine WL_nil ?_
                exact FinE_ctx hC8 rfl rfl (fun F h => ⟨b4, rfl, h⟩)
              refine StepsE_cons rfl ?_ ?_
              · intro w14 hB14
                refine DepsE_cons rfl rfl rfl ?_
                rintro _ _ ⟨v9, v10, v11, F5, F6, F7, rfl, rfl, hv8, hv9, hv10⟩ _
                obtain ⟨rfl, rfl⟩ := val_int hv10
                obtain ⟨v12, rfl, h3⟩ := ro_st37 (ro_of_own hv9)
                refine DepsE_cons rfl rfl rfl ?_
                rintro _ _ ⟨rfl, rfl⟩ _
                refine DepsE_cons rfl rfl rfl ?_
                rintro _ _ ⟨⟨_, hx1, hx2⟩, rfl⟩ _
                obtain rfl := Value.tuple.inj hx1
                obtain rfl := Option.some.inj (show (some v9 : Option Value) = some _ from hx2)
                refine DepsE_nil ?_
                refine ⟨_, rfl, ?_⟩
                refine WL_assign rfl rfl ?_
                refine WL_nil ?_
                exact FinE_val (Below.refl _ _) rfl rfl ⟨rfl, rfl⟩
              exact StepsE_nil
            · intro g' hg'
              obtain rfl : g' = 2 := hg'
              intro w15 hB15
              refine AllE_cons rfl rfl rfl ?_
              intro v3 F1 hv4
              refine AllE_cons rfl rfl rfl ?_
              intro v4 F2 hv5
              refine AllE_cons rfl rfl rfl ?_
              rintro _ _ ⟨rfl, rfl⟩
              refine AllE_cons rfl rfl rfl ?_
              intro v5 F3 hv6
              refine AllE_cons rfl rfl rfl ?_
              rintro _ _ ⟨rfl, rfl⟩
              refine AllE_cons rfl rfl rfl ?_
              intro v7 F4 hv7
              refine AllE_cons rfl rfl rfl ?_
              rintro _ _ ⟨v9, v10, v11, F5, F6, F7, rfl, rfl, hv8, hv9, hv10⟩
              obtain ⟨rfl, rfl⟩ := val_int hv10
              refine AllE_cons rfl rfl rfl ?_
              rintro _ _ ⟨rfl, rfl⟩
              refine AllE_cons rfl rfl rfl ?_
              rintro _ _ ⟨⟨_, hx3, hx4⟩, rfl⟩
              obtain rfl := Value.tuple.inj hx3
              obtain rfl := Option.some.inj (show (some v9 : Option Value) = some _ from hx4)
              refine AllE_cons rfl rfl rfl ?_
              rintro _ _ ⟨⟨_, hx5, hx6⟩, rfl⟩
              obtain rfl := Value.tuple.inj hx5
              obtain rfl := Option.some.inj (show (some v10 : Option Value) = some _ from hx6)
              refine AllE_cons rfl rfl rfl ?_
              rintro _ _ ⟨⟨_, hx7, hx8⟩, rfl⟩
              obtain rfl := Value.tuple.inj hx7
              obtain rfl := Option.some.inj (show (some (.int .i64 x14.2.2) : Option Value) = some _ from hx8)
              refine AllE_cons rfl rfl rfl ?_
              rintro _ F8 ⟨b4, rfl, hv11⟩
              refine AllE_cons rfl rfl rfl ?_
              rintro _ _ ⟨rfl, rfl⟩
              refine AllE_nil ?_
              intro hn6 hb6
              have hC9 := hC7.pushL hB15 (Bs := [Item.box b4 [(.int .i64 0), (.slice none 0 0), (.int .i64 0), (.int .i64 0)], Item.own v9 (x14.1 : (List (Int × (List Int)))), Item.own v10 (x14.2.1 : ((Int × (List Int)) × Int × Int)), Item.own v7 (x13 : ((Int × (List Int)) × Int × Int)), Item.own v5 (x12 : ((List (Int × (List Int))) × Int)), Item.own v4 (x11 : (List (Int × (List Int) × Int × Int × Int))), Item.own v3 (x10 : (List Int))]) (Fs := [F8, F5, F6, F4, F3, F2, F1]) ⟨F8, _, rfl, hv11, F5, _, rfl, hv8, F6, _, rfl, hv9, F4, _, rfl, hv7, F3, _, rfl, hv6, F2, _, rfl, hv5, F1, _, rfl, hv4, rfl⟩ (by simpa using hn6) (fun b h => (hb6 b (by simpa using h)).1)
              have hC10 : Ctx [] w0 _ [Item.own v5 (x12 : ((List (Int × (List Int))) × Int)), Item.box b4 [(.int .i64 0), (.slice none 0 0), (.int .i64 0), (.int .i64 0)], Item.own v9 (x14.1 : (List (Int × (List Int)))), Item.own v10 (x14.2.1 : ((Int × (List Int)) × Int × Int)), Item.own v7 (x13 : ((Int × (List Int)) × Int × Int)), Item.own v4 (x11 : (List (Int × (List Int) × Int × Int × Int))), Item.own v3 (x10 : (List Int)), Item.box b2 [(.int .i64 a4.1.1), u4, (.int .i64 a4.2.1), (.int .i64 a4.2.2)], Item.box b1 [u3, (.int .i64 a3.2)]] := hC9.front 4 rfl
              obtain ⟨v13, rfl, hC11⟩ := st44_own hC10
              have hC12 : Ctx [] w0 _ [Item.own v7 (x13 : ((Int × (List Int)) × Int × Int)), Item.own v13 (x12.1 : (List (Int × (List Int)))), Item.box b4 [(.int .i64 0), (.slice none 0 0), (.int .i64 0), (.int .i64 0)], Item.own v9 (x14.1 : (List (Int × (List Int)))), Item.own v10 (x14.2.1 : ((Int × (List Int)) × Int × Int)), Item.own v4 (x11 : (List (Int × (List Int) × Int × Int × Int))), Item.own v3 (x10 : (List Int)), Item.box b2 [(.int .i64 a4.1.1), u4, (.int .i64 a4.2.1), (.int .i64 a4.2.2)], Item.box b1 [u3, (.int .i64 a3.2)]] := hC11.front 4 rfl
              obtain ⟨v14, rfl, hC13⟩ := st37_own hC12
              have hC14 : Ctx [] w0 _ [Item.own v10 (x14.2.1 : ((Int × (List Int)) × Int × Int)), Item.own v14 (x13.1.2 : (List Int)), Item.own v13 (x12.1 : (List (Int × (List Int)))), Item.box b4 [(.int .i64 0), (.slice none 0 0), (.int .i64 0), (.int .i64 0)], Item.own v9 (x14.1 : (List (Int × (List Int)))), Item.own v4 (x11 : (List (Int × (List Int) × Int × Int × Int))), Item.own v3 (x10 : (List Int)), Item.box b2 [(.int .i64 a4.1.1), u4, (.int .i64 a4.2.1), (.int .i64 a4.2.2)], Item.box b1 [u3, (.int .i64 a3.2)]] := hC13.front 4 rfl
              obtain ⟨v15, rfl, hC15⟩ := st37_own hC14
              refine WA_one 16 (by kernel_rfl) rfl ?_
              refine WL_store_box_agg (cs' := [(.int .i64 x14.2.1.1.1), v15, (.int .i64 x14.2.1.2.1), (.int .i64 x14.2.1.2.2)]) (new := [(.int .i64 x14.2.1.1.1), v15, (.int .i64 x14.2.1.2.1), (.int .i64 x14.2.1.2.2)]) hC15 3 rfl rfl (by intro v hv; simp only [List.mem_cons, List.not_mem_nil, or_false] at hv; rcases hv with rfl | rfl | rfl | rfl; exact rfl; exact (ro_one (hC15.ro 0 rfl)); exact rfl; exact rfl) rfl Try.sizeOf37 rfl rfl (fun w16 hC16 => ?_)
              try dsimp only [List.set] at hC16
              refine WL_nil ?_
              refine WA_take 17 rfl (by kernel_rfl) (by kernel_rfl) (by kernel_rfl) rfl (fl_assign rfl) ?_
              refine WL_assign rfl rfl ?_
              refine WL_nil ?_
              refine WA_done (by kernel_rfl) ?_
              have hq5 := Option.some.inj hr4
              subst hq5
              have hC17 : Ctx [] w0 _ [Item.box b1 [u3, (.int .i64 a3.2)], Item.own v15 (x14.2.1.1.2 : (List Int)), Item.own v14 (x13.1.2 : (List Int)), Item.own v13 (x12.1 : (List (Int × (List Int)))), Item.box b4 [(.int .i64 x14.2.1.1.1), v15, (.int .i64 x14.2.1.2.1), (.int .i64 x14.2.1.2.2)], Item.own v9 (x14.1 : (List (Int × (List Int)))), Item.own v4 (x11 : (List (Int × (List Int) × Int × Int × Int))), Item.own v3 (x10 : (List Int)), Item.box b2 [(.int .i64 a4.1.1), u4, (.int .i64 a4.2.1), (.int .i64 a4.2.2)]] := hC16.front 8 rfl
              have hC18 : Ctx [] w0 _ [Item.box b2 [(.int .i64 a4.1.1), u4, (.int .i64 a4.2.1), (.int .i64 a4.2.2)], Item.box b1 [u3, (.int .i64 a3.2)], Item.own v15 (x14.2.1.1.2 : (List Int)), Item.own v14 (x13.1.2 : (List Int)), Item.own v13 (x12.1 : (List (Int × (List Int)))), Item.box b4 [(.int .i64 x14.2.1.1.1), v15, (.int .i64 x14.2.1.2.1), (.int .i64 x14.2.1.2.2)], Item.own v9 (x14.1 : (List (Int × (List Int)))), Item.own v4 (x11 : (List (Int × (List Int) × Int × Int × Int))), Item.own v3 (x10 : (List Int))] := hC17.front 8 rfl
              have hC19 : Ctx [] w0 _ [Item.own v9 (x14.1 : (List (Int × (List Int)))), Item.box b2 [(.int .i64 a4.1.1), u4, (.int .i64 a4.2.1), (.int .i64 a4.2.2)], Item.box b1 [u3, (.int .i64 a3.2)], Item.own v15 (x14.2.1.1.2 : (List Int)), Item.own v14 (x13.1.2 : (List Int)), Item.own v13 (x12.1 : (List (Int × (List Int)))), Item.box b4 [(.int .i64 x14.2.1.1.1), v15, (.int .i64 x14.2.1.2.1), (.int .i64 x14.2.1.2.2)], Item.own v4 (x11 : (List (Int × (List Int) × Int × Int × Int))), Item.own v3 (x10 : (List Int))] := hC18.front 6 rfl
              have hC20 : Ctx [] w0 _ [Item.own v15 (x14.2.1.1.2 : (List Int)), Item.own v9 (x14.1 : (List (Int × (List Int)))), Item.box b2 [(.int .i64 a4.1.1), u4, (.int .i64 a4.2.1), (.int .i64 a4.2.2)], Item.box b1 [u3, (.int .i64 a3.2)], Item.own v14 (x13.1.2 : (List Int)), Item.own v13 (x12.1 : (List (Int × (List Int)))), Item.box b4 [(.int .i64 x14.2.1.1.1), v15, (.int .i64 x14.2.1.2.1), (.int .i64 x14.2.1.2.2)], Item.own v4 (x11 : (List (Int × (List Int) × Int × Int × Int))), Item.own v3 (x10 : (List Int))] := hC19.front 3 rfl
              have hC21 : Ctx [] w0 _ [Item.box b4 [(.int .i64 x14.2.1.1.1), v15, (.int .i64 x14.2.1.2.1), (.int .i64 x14.2.1.2.2)], Item.own v15 (x14.2.1.1.2 : (List Int)), Item.own v9 (x14.1 : (List (Int × (List Int)))), Item.box b2 [(.int .i64 a4.1.1), u4, (.int .i64 a4.2.1), (.int .i64 a4.2.2)], Item.box b1 [u3, (.int .i64 a3.2)], Item.own v14 (x13.1.2 : (List Int)), Item.own v13 (x12.1 : (List (Int × (List Int)))), Item.own v4 (x11 : (List (Int × (List Int) × Int × Int × Int))), Item.own v3 (x10 : (List Int))] := hC20.front 6 rfl
              have hC22 : Ctx [] w0 _ [Item.box b4 [(.int .i64 x14.2.1.1.1), v15, (.int .i64 x14.2.1.2.1), (.int .i64 x14.2.1.2.2)], Item.own v15 (x14.2.1.1.2 : (List Int)), Item.own v9 (x14.1 : (List (Int × (List Int)))), Item.box b2 [(.int .i64 a4.1.1), u4, (.int .i64 a4.2.1), (.int .i64 a4.2.2)], Item.box b1 [u3, (.int .i64 a3.2)]] := hC21.headN 5
              refine nrm_sub (l' := [(0, u1), (1, u2), (4, (.int .i64 a5)), (7, (ptr b1 0)), (8, (ptr b2 0)), (12, v9), (13, (ptr b4 0)), (14, (.int .i64 x14.2.2))]) ⟨rfl, rfl, rfl, rfl, rfl, rfl, rfl, rfl, trivial⟩ ?_
              exact ⟨v9, x14.1, x14.2.2, b4, x14.2.1.1.1, v15, x14.2.1.1.2, x14.2.1.2.1, x14.2.1.2.2, rfl, rfl, hC22⟩
            · intro g' hg'
              obtain rfl : g' = 3 := hg'
              intro w15 hB15
              refine AllE_cons rfl rfl rfl ?_
              intro v3 F1 hv4
              refine AllE_cons rfl rfl rfl ?_
              intro v4 F2 hv5
              refine AllE_cons rfl rfl rfl ?_
              rintro _ _ ⟨rfl, rfl⟩
              refine AllE_cons rfl rfl rfl ?_
              intro v5 F3 hv6
              refine AllE_cons rfl rfl rfl ?_
              rintro _ _ ⟨rfl, rfl⟩
              refine AllE_cons rfl rfl rfl ?_
              intro v7 F4 hv7
              refine AllE_cons rfl rfl rfl ?_
              rintro _ _ ⟨v9, v10, v11, F5, F6, F7, rfl, rfl, hv8, hv9, hv10⟩
              obtain ⟨rfl, rfl⟩ := val_int hv10
              refine AllE_cons rfl rfl rfl ?_
              rintro _ _ ⟨rfl, rfl⟩
              refine AllE_cons rfl rfl rfl ?_
              rintro _ _ ⟨⟨_, hx3, hx4⟩, rfl⟩
              obtain rfl := Value.tuple.inj hx3
              obtain rfl := Option.some.inj (show (some v9 : Option Value) = some _ from hx4)
              refine AllE_cons rfl rfl rfl ?_
              rintro _ _ ⟨⟨_, hx5, hx6⟩, rfl⟩
              obtain rfl := Value.tuple.inj hx5
              obtain rfl := Option.some.inj (show (some v10 : Option Value) = some _ from hx6)
              refine AllE_cons rfl rfl rfl ?_
              rintro _ F8 ⟨b4, rfl, hv11⟩
              refine AllE_cons rfl rfl rfl ?_
              rintro _ _ ⟨rfl, rfl⟩
              refine AllE_nil ?_
              intro hn6 hb6
              have hC9 := hC7.pushL hB15 (Bs := [Item.box b4 [(.int .i64 0), (.slice none 0 0), (.int .i64 0), (.int .i64 0)], Item.own v9 (x14.1 : (List (Int × (List Int)))), Item.own v10 (x14.2.1 : ((Int × (List Int)) × Int × Int)), Item.own v7 (x13 : ((Int × (List Int)) × Int × Int)), Item.own v5 (x12 : ((List (Int × (List Int))) × Int)), Item.own v4 (x11 : (List (Int × (List Int) × Int × Int × Int))), Item.own v3 (x10 : (List Int))]) (Fs := [F8, F5, F6, F4, F3, F2, F1]) ⟨F8, _, rfl, hv11, F5, _, rfl, hv8, F6, _, rfl, hv9, F4, _, rfl, hv7, F3, _, rfl, hv6, F2, _, rfl, hv5, F1, _, rfl, hv4, rfl⟩ (by simpa using hn6) (fun b h => (hb6 b (by simpa using h)).1)
              have hC10 : Ctx [] w0 _ [Item.own v5 (x12 : ((List (Int × (List Int))) × Int)), Item.box b4 [(.int .i64 0), (.slice none 0 0), (.int .i64 0), (.int .i64 0)], Item.own v9 (x14.1 : (List (Int × (List Int)))), Item.own v10 (x14.2.1 : ((Int × (List Int)) × Int × Int)), Item.own v7 (x13 : ((Int × (List Int)) × Int × Int)), Item.own v4 (x11 : (List (Int × (List Int) × Int × Int × Int))), Item.own v3 (x10 : (List Int)), Item.box b2 [(.int .i64 a4.1.1), u4, (.int .i64 a4.2.1), (.int .i64 a4.2.2)], Item.box b1 [u3, (.int .i64 a3.2)]] := hC9.front 4 rfl
              obtain ⟨v13, rfl, hC11⟩ := st44_own hC10
              have hC12 : Ctx [] w0 _ [Item.own v7 (x13 : ((Int × (List Int)) × Int × Int)), Item.own v13 (x12.1 : (List (Int × (List Int)))), Item.box b4 [(.int .i64 0), (.slice none 0 0), (.int .i64 0), (.int .i64 0)], Item.own v9 (x14.1 : (List (Int × (List Int)))), Item.own v10 (x14.2.1 : ((Int × (List Int)) × Int × Int)), Item.own v4 (x11 : (List (Int × (List Int) × Int × Int × Int))), Item.own v3 (x10 : (List Int)), Item.box b2 [(.int .i64 a4.1.1), u4, (.int .i64 a4.2.1), (.int .i64 a4.2.2)], Item.box b1 [u3, (.int .i64 a3.2)]] := hC11.front 4 rfl
              obtain ⟨v14, rfl, hC13⟩ := st37_own hC12
              have hC14 : Ctx [] w0 _ [Item.own v10 (x14.2.1 : ((Int × (List Int)) × Int × Int)), Item.own v14 (x13.1.2 : (List Int)), Item.own v13 (x12.1 : (List (Int × (List Int)))), Item.box b4 [(.int .i64 0), (.slice none 0 0), (.int .i64 0), (.int .i64 0)], Item.own v9 (x14.1 : (List (Int × (List Int)))), Item.own v4 (x11 : (List (Int × (List Int) × Int × Int × Int))), Item.own v3 (x10 : (List Int)), Item.box b2 [(.int .i64 a4.1.1), u4, (.int .i64 a4.2.1), (.int .i64 a4.2.2)], Item.box b1 [u3, (.int .i64 a3.2)]] := hC13.front 4 rfl
              obtain ⟨v15, rfl, hC15⟩ := st37_own hC14
              refine WA_take 13 rfl (by kernel_rfl) (by kernel_rfl) (by kernel_rfl) rfl (fl_extract rfl rfl) ?_
              refine WL_extract rfl rfl rfl ?_
              refine WL_nil ?_
              refine WA_one 16 (by kernel_rfl) rfl ?_
              refine WL_store_box_agg (cs' := [(.int .i64 x14.2.1.1.1), v15, (.int .i64 x14.2.1.2.1), (.int .i64 x14.2.1.2.2)]) (new := [(.int .i64 x14.2.1.1.1), v15, (.int .i64 x14.2.1.2.1), (.int .i64 x14.2.1.2.2)]) hC15 3 rfl rfl (by intro v hv; simp only [List.mem_cons, List.not_mem_nil, or_false] at hv; rcases hv with rfl | rfl | rfl | rfl; exact rfl; exact (ro_one (hC15.ro 0 rfl)); exact rfl; exact rfl) rfl Try.sizeOf37 rfl rfl (fun w16 hC16 => ?_)
              try dsimp only [List.set] at hC16
              refine WL_nil ?_
              refine WA_take 17 rfl (by kernel_rfl) (by kernel_rfl) (by kernel_rfl) rfl (fl_assign rfl) ?_
              refine WL_assign rfl rfl ?_
              refine WL_nil ?_
              refine WA_done (by kernel_rfl) ?_
              have hq5 := Option.some.inj hr4
              subst hq5
              have hC17 : Ctx [] w0 _ [Item.box b1 [u3, (.int .i64 a3.2)], Item.own v15 (x14.2.1.1.2 : (List Int)), Item.own v14 (x13.1.2 : (List Int)), Item.own v13 (x12.1 : (List (Int × (List Int)))), Item.box b4 [(.int .i64 x14.2.1.1.1), v15, (.int .i64 x14.2.1.2.1), (.int .i64 x14.2.1.2.2)], Item.own v9 (x14.1 : (List (Int × (List Int)))), Item.own v4 (x11 : (List (Int × (List Int) × Int × Int × Int))), Item.own v3 (x10 : (List Int)), Item.box b2 [(.int .i64 a4.1.1), u4, (.int .i64 a4.2.1), (.int .i64 a4.2.2)]] := hC16.front 8 rfl
              have hC18 : Ctx [] w0 _ [Item.box b2 [(.int .i64 a4.1.1), u4, (.int .i64 a4.2.1), (.int .i64 a4.2.2)], Item.box b1 [u3, (.int .i64 a3.2)], Item.own v15 (x14.2.1.1.2 : (List Int)), Item.own v14 (x13.1.2 : (List Int)), Item.own v13 (x12.1 : (List (Int × (List Int)))), Item.box b4 [(.int .i64 x14.2.1.1.1), v15, (.int .i64 x14.2.1.2.1), (.int .i64 x14.2.1.2.2)], Item.own v9 (x14.1 : (List (Int × (List Int)))), Item.own v4 (x11 : (List (Int × (List Int) × Int × Int × Int))), Item.own v3 (x10 : (List Int))] := hC17.front 8 rfl
              have hC19 : Ctx [] w0 _ [Item.own v9 (x14.1 : (List (Int × (List Int)))), Item.box b2 [(.int .i64 a4.1.1), u4, (.int .i64 a4.2.1), (.int .i64 a4.2.2)], Item.box b1 [u3, (.int .i64 a3.2)], Item.own v15 (x14.2.1.1.2 : (List Int)), Item.own v14 (x13.1.2 : (List Int)), Item.own v13 (x12.1 : (List (Int × (List Int)))), Item.box b4 [(.int .i64 x14.2.1.1.1), v15, (.int .i64 x14.2.1.2.1), (.int .i64 x14.2.1.2.2)], Item.own v4 (x11 : (List (Int × (List Int) × Int × Int × Int))), Item.own v3 (x10 : (List Int))] := hC18.front 6 rfl
              have hC20 : Ctx [] w0 _ [Item.own v15 (x14.2.1.1.2 : (List Int)), Item.own v9 (x14.1 : (List (Int × (List Int)))), Item.box b2 [(.int .i64 a4.1.1), u4, (.int .i64 a4.2.1), (.int .i64 a4.2.2)], Item.box b1 [u3, (.int .i64 a3.2)], Item.own v14 (x13.1.2 : (List Int)), Item.own v13 (x12.1 : (List (Int × (List Int)))), Item.box b4 [(.int .i64 x14.2.1.1.1), v15, (.int .i64 x14.2.1.2.1), (.int .i64 x14.2.1.2.2)], Item.own v4 (x11 : (List (Int × (List Int) × Int × Int × Int))), Item.own v3 (x10 : (List Int))] := hC19.front 3 rfl
              have hC21 : Ctx [] w0 _ [Item.box b4 [(.int .i64 x14.2.1.1.1), v15, (.int .i64 x14.2.1.2.1), (.int .i64 x14.2.1.2.2)], Item.own v15 (x14.2.1.1.2 : (List Int)), Item.own v9 (x14.1 : (List (Int × (List Int)))), Item.box b2 [(.int .i64 a4.1.1), u4, (.int .i64 a4.2.1), (.int .i64 a4.2.2)], Item.box b1 [u3, (.int .i64 a3.2)], Item.own v14 (x13.1.2 : (List Int)), Item.own v13 (x12.1 : (List (Int × (List Int)))), Item.own v4 (x11 : (List (Int × (List Int) × Int × Int × Int))), Item.own v3 (x10 : (List Int))] := hC20.front 6 rfl
              have hC22 : Ctx [] w0 _ [Item.box b4 [(.int .i64 x14.2.1.1.1), v15, (.int .i64 x14.2.1.2.1), (.int .i64 x14.2.1.2.2)], Item.own v15 (x14.2.1.1.2 : (List Int)), Item.own v9 (x14.1 : (List (Int × (List Int)))), Item.box b2 [(.int .i64 a4.1.1), u4, (.int .i64 a4.2.1), (.int .i64 a4.2.2)], Item.box b1 [u3, (.int .i64 a3.2)]] := hC21.headN 5
              refine nrm_sub (l' := [(0, u1), (1, u2), (4, (.int .i64 a5)), (7, (ptr b1 0)), (8, (ptr b2 0)), (12, v9), (13, (ptr b4 0)), (14, (.int .i64 x14.2.2))]) ⟨rfl, rfl, rfl, rfl, rfl, rfl, rfl, rfl, trivial⟩ ?_
              exact ⟨v9, x14.1, x14.2.2, b4, x14.2.1.1.1, v15, x14.2.1.1.2, x14.2.1.2.1, x14.2.1.2.2, rfl, rfl, hC22⟩
          · rintro _ w6 ⟨v1, x4, x5, b3, x6, v2, x7, x8, x9, rfl, rfl, hC6⟩
            try dsimp only at hF
            refine W_seq_reg ?_
            refine WL_move rfl rfl ?_
            obtain ⟨x15, hr10, hF⟩ := bind_some hF
            refine WL_call Try.call8 rfl rfl (c_Q_toIntS a1 u1 (g1.now hC6.keep) x15 hr10) ?_
            rintro v16 w17 ⟨hB16, F9, hv12, hn7, hb7⟩
            have hC23 := hC6.push hB16 (A := Item.own v16 x15) hv12 hn7 hb7
            refine WL_assign rfl rfl ?_
            refine WL_nil ?_
            refine W_seq_reg ?_
            refine WL_move rfl rfl ?_
            obtain ⟨x16, hr11, hF⟩ := bind_some hF
            refine WL_call Try.call9 rfl rfl (c_Q_toMethodS a2 u2 (g2.now hC23.keep) x16 hr11) ?_
            rintro v17 w18 ⟨hB17, F10, hv13, hn8, hb8⟩
            have hC24 := hC23.push hB17 (A := Item.own v17 x16) hv13 hn8 hb8
            refine WL_assign rfl rfl ?_
            refine WL_nil ?_
            refine W_seq_reg ?_
            refine WL_load_box_agg [u3, (.int .i64 a3.2)] hC24 6 rfl rfl rfl Try.isAgg26 Try.sizeOf26 rfl rfl ?_
            obtain ⟨x17, hr12, hF⟩ := bind_some hF
            refine WL_call Try.call10 rfl rfl (c_Q_toSource (a3.1, a3.2) u3 (g3.now hC24.keep) x17 hr12) ?_
            rintro v18 w19 ⟨hB18, F11, hv14, hn9, hb9⟩
            have hC25 := hC24.push hB18 (A := Item.own v18 x17) hv14 hn9 hb9
            obtain ⟨v19, rfl, hC26⟩ := st44_own hC25
            refine WL_alloc hC26 zero44 rfl rfl (fun b5 w20 hC27 hB19 => ?_)
            refine WL_store_box_agg (cs' := [v19, (.int .i64 x17.2)]) (new := [v19, (.int .i64 x17.2)]) hC27 0 rfl rfl (by intro v hv; simp only [List.mem_cons, List.not_mem_nil, or_false] at hv; rcases hv with rfl | rfl; exact (ro_one (hC27.ro 1 rfl)); exact rfl) rfl Try.sizeOf44 rfl rfl (fun w21 hC28 => ?_)
            try dsimp only [List.set] at hC28
            refine WL_nil ?_
            refine W_seq_reg ?_
            refine WL_load_box_agg [(.int .i64 a4.1.1), u4, (.int .i64 a4.2.1), (.int .i64 a4.2.2)] hC28 7 rfl rfl rfl Try.isAgg30 Try.sizeOf30 rfl rfl ?_
            obtain ⟨x18, hr13, hF⟩ := bind_some hF
            refine WL_call Try.call11 rfl rfl (c_Q_toCursor ((a4.1.1, a4.1.2), a4.2.1, a4.2.2) u4 (g4.now hC28.keep) x18 hr13) ?_
            rintro v20 w22 ⟨hB20, F12, hv15, hn10, hb10⟩
            have hC29 := hC28.push hB20 (A := Item.own v20 x18) hv15 hn10 hb10
            obtain ⟨v21, rfl, hC30⟩ := st37_own hC29
            refine WL_alloc hC30 zero37 rfl rfl (fun b6 w23 hC31 hB21 => ?_)
            refine WL_store_box_agg (cs' := [(.int .i64 x18.1.1), v21, (.int .i64 x18.2.1), (.int .i64 x18.2.2)]) (new := [(.int .i64 x18.1.1), v21, (.int .i64 x18.2.1), (.int .i64 x18.2.2)]) hC31 0 rfl rfl (by intro v hv; simp only [List.mem_cons, List.not_mem_nil, or_false] at hv; rcases hv with rfl | rfl | rfl | rfl; exact rfl; exact (ro_one (hC31.ro 1 rfl)); exact rfl; exact rfl) rfl Try.sizeOf37 rfl rfl (fun w24 hC32 => ?_)
            try dsimp only [List.set] at hC32
            refine WL_nil ?_
            refine W_seq_reg ?_
            refine WL_move rfl rfl ?_
            refine WL_move rfl rfl ?_
            refine WL_load_box_agg [v19, (.int .i64 x17.2)] hC32 2 rfl rfl rfl Try.isAgg44 Try.sizeOf44 rfl rfl ?_
            refine WL_load_box_agg [(.int .i64 x18.1.1), v21, (.int .i64 x18.2.1), (.int .i64 x18.2.2)] hC32 0 rfl rfl rfl Try.isAgg37 Try.sizeOf37 rfl rfl ?_
            refine WL_move rfl rfl ?_
            obtain ⟨x19, hr14, hF⟩ := bind_some hF
            refine WL_call Try.call12 rfl rfl (c_M_NextPage x15 v16 ((hC32.ro 5 rfl).now (Keep.refl _ _)) x16 v17 ((hC32.ro 4 rfl).now (Keep.refl _ _)) (x17.1, x17.2) v19 ((hC32.ro 3 rfl).now (Keep.refl _ _)) ((x18.1.1, x18.1.2), x18.2.1, x18.2.2) v21 ((hC32.ro 1 rfl).now (Keep.refl _ _)) a5 x19 hr14) ?_
            rintro _ w25 ⟨hB22, v22, v23, v24, F13, F14, F15, rfl, hv16, hv17, hv18, hn11, hb11⟩
            obtain ⟨rfl, rfl⟩ := val_int hv18
            have hC33 := hC32.pushL hB22 (Bs := [Item.own v22 x19.1, Item.own v23 x19.2.1]) (Fs := [F13, F14]) ⟨F13, _, rfl, hv16, F14, _, rfl, hv17, rfl⟩ (by simpa using hn11) (fun b h => hb11 b (by simpa using h))
            have hC34 : Ctx [] w0 _ [Item.own v23 (x19.2.1 : ((Int × (List Int)) × Int × Int)), Item.own v22 (x19.1 : (List (Int × (List Int)))), Item.box b6 [(.int .i64 x18.1.1), v21, (.int .i64 x18.2.1), (.int .i64 x18.2.2)], Item.own v21 (x18.1.2 : (List Int)), Item.box b5 [v19, (.int .i64 x17.2)], Item.own v19 (x17.1 : (List (Int × (List Int)))), Item.own v17 (x16 : (List (Int × (List Int) × Int × Int × Int))), Item.own v16 (x15 : (List Int)), Item.box b3 [(.int .i64 x6), v2, (.int .i64 x8), (.int .i64 x9)], Item.own v2 (x7 : (List Int)), Item.own v1 (x4 : (List (Int × (List Int)))), Item.box b2 [(.int .i64 a4.1.1), u4, (.int .i64 a4.2.1), (.int .i64 a4.2.2)], Item.box b1 [u3, (.int .i64 a3.2)]] := hC33.front 1 rfl
            obtain ⟨v25, rfl, hC35⟩ := st37_own hC34
            refine WL_move rfl rfl ?_
            refine WL_extract rfl rfl rfl ?_
            refine WL_extract rfl rfl rfl ?_
            refine WL_extract rfl rfl rfl ?_
            refine WL_alloc hC35 zero37 rfl rfl (fun b7 w26 hC36 hB23 => ?_)
            refine WL_assign rfl rfl ?_
            refine WL_store_box_agg (cs' := [(.int .i64 x19.2.1.1.1), v25, (.int .i64 x19.2.1.2.1), (.int .i64 x19.2.1.2.2)]) (new := [(.int .i64 x19.2.1.1.1), v25, (.int .i64 x19.2.1.2.1), (.int .i64 x19.2.1.2.2)]) hC36 0 rfl rfl (by intro v hv; simp only [List.mem_cons, List.not_mem_nil, or_false] at hv; rcases hv with rfl | rfl | rfl | rfl; exact rfl; exact (ro_one (hC36.ro 1 rfl)); exact rfl; exact rfl) rfl Try.sizeOf37 rfl rfl (fun w27 hC37 => ?_)
            try dsimp only [List.set] at hC37
            refine WL_assign rfl rfl ?_
            refine WL_nil ?_
            refine W_seq ?_
            obtain ⟨r2, hr15, hF⟩ := bind_some hF
            refine W_cut (fun l w => ∃ x20 : Bool, x20 = r2 ∧ l = [(0, u1), (1, u2), (4, (.int .i64 a5)), (7, (ptr b1 0)), (8, (ptr b2 0)), (12, v1), (13, (ptr b3 0)), (14, (.int .i64 x5)), (15, v16), (16, v17), (17, (ptr b5 0)), (18, (ptr b6 0)), (19, v22), (20, (ptr b7 0)), (21, (.int .i64 x19.2.2)), (92, (.bool x20))] ∧ Below w27.heap.size w27 w ∧ Ctx [] w0 w [Item.box b7 [(.int .i64 x19.2.1.1.1), v25, (.int .i64 x19.2.1.2.1), (.int .i64 x19.2.1.2.2)], Item.own v25 (x19.2.1.1.2 : (List Int)), Item.own v22 (x19.1 : (List (Int × (List Int)))), Item.box b6 [(.int .i64 x18.1.1), v21, (.int .i64 x18.2.1), (.int .i64 x18.2.2)], Item.own v21 (x18.1.2 : (List Int)), Item.box b5 [v19, (.int .i64 x17.2)], Item.own v19 (x17.1 : (List (Int × (List Int)))), Item.own v17 (x16 : (List (Int × (List Int) × Int × Int × Int))), Item.own v16 (x15 : (List Int)), Item.box b3 [(.int .i64 x6), v2, (.int .i64 x8), (.int .i64 x9)], Item.own v2 (x7 : (List Int)), Item.own v1 (x4 : (List (Int × (List Int)))), Item.box b2 [(.int .i64 a4.1.1), u4, (.int .i64 a4.2.1), (.int .i64 a4.2.2)], Item.box b1 [u3, (.int .i64 a3.2)]]) ?_ ?_
            · refine W_reg ?_
              refine WL_move rfl rfl ?_
              refine WL_move rfl rfl ?_
              obtain ⟨x21, hr16, hr15⟩ := bind_some hr15
              refine WL_call Try.call13 rfl rfl (c_Q_eqFactS x19.1 v22 ((hC37.ro 2 rfl).now (Keep.refl _ _)) x4 v1 ((hC37.ro 11 rfl).now (Keep.refl _ _)) x21 hr16) ?_
              intro _ w29 hv19
              obtain ⟨rfl, hB25⟩ := res_bool hv19
              have hC39 := hC37.grow hB25
              refine WL_not rfl rfl ?_
              refine WL_move rfl rfl ?_
              refine WL_fork (fun hc5 => ?_) (fun hc5 => ?_)
              · replace hr15 := ite_t hr15 hc5
                refine WL_guard_skip rfl rfl (by simp) rfl ?_
                refine WL_guard_skip rfl rfl (by simp) rfl ?_
                refine WL_guard_skip rfl rfl (by simp) rfl ?_
                refine WL_guard_skip rfl rfl (by simp) rfl ?_
                refine WL_pick_t rfl rfl rfl ?_
                refine WL_move rfl rfl ?_
                refine WL_guard_skip rfl rfl (by simp) rfl ?_
                refine WL_guard_skip rfl rfl (by simp) rfl ?_
                refine WL_guard_skip rfl rfl (by simp) rfl ?_
                refine WL_pick_t rfl rfl rfl ?_
                refine WL_nil ?_
                have hq6 := Option.some.inj hr15
                subst hq6
                refine nrm_sub (l' := [(0, u1), (1, u2), (4, (.int .i64 a5)), (7, (ptr b1 0)), (8, (ptr b2 0)), (12, v1), (13, (ptr b3 0)), (14, (.int .i64 x5)), (15, v16), (16, v17), (17, (ptr b5 0)), (18, (ptr b6 0)), (19, v22), (20, (ptr b7 0)), (21, (.int .i64 x19.2.2)), (92, (.bool true))]) ⟨rfl, rfl, rfl, rfl, rfl, rfl, rfl, rfl, rfl, rfl, rfl, rfl, rfl, rfl, rfl, rfl, trivial⟩ ?_
                exact ⟨true, rfl, rfl, (Keep.of hB25).below, hC39⟩
              · replace hr15 := ite_f hr15 hc5
                refine WL_guard rfl rfl ?_
                refine WL_load_box_agg [(.int .i64 x19.2.1.1.1), v25, (.int .i64 x19.2.1.2.1), (.int .i64 x19.2.1.2.2)] hC39 0 rfl rfl rfl Try.isAgg37 Try.sizeOf37 rfl rfl ?_
                refine WL_guard rfl rfl ?_
                refine WL_load_box_agg [(.int .i64 x6), v2, (.int .i64 x8), (.int .i64 x9)] hC39 9 rfl rfl rfl Try.isAgg37 Try.sizeOf37 rfl rfl ?_
                obtain ⟨x22, hr17, hr15⟩ := bind_some hr15
                refine WL_guard rfl rfl ?_
                refine WL_call Try.call14 rfl rfl (c_Q_eqCursor ((x19.2.1.1.1, x19.2.1.1.2), x19.2.1.2.1, x19.2.1.2.2) v25 ((hC39.ro 1 rfl).now (Keep.refl _ _)) ((x6, x7), x8, x9) v2 ((hC39.ro 10 rfl).now (Keep.refl _ _)) x22 hr17) ?_
                intro _ w30 hv20
                obtain ⟨rfl, hB26⟩ := res_bool hv20
                have hC40 := hC39.grow hB26
                refine WL_guard rfl rfl ?_
                refine WL_not rfl rfl ?_
                refine WL_pick_f rfl rfl rfl ?_
                refine WL_move rfl rfl ?_
                refine WL_fork (fun hc6 => ?_) (fun hc6 => ?_)
                · replace hr15 := ite_t hr15 hc6
                  refine WL_guard_skip rfl rfl (by simp) rfl ?_
                  refine WL_guard_skip rfl rfl (by simp) rfl ?_
                  refine WL_guard_skip rfl rfl (by simp) rfl ?_
                  refine WL_pick_t rfl rfl rfl ?_
                  refine WL_nil ?_
                  have hq7 := Option.some.inj hr15
                  subst hq7
                  refine nrm_sub (l' := [(0, u1), (1, u2), (4, (.int .i64 a5)), (7, (ptr b1 0)), (8, (ptr b2 0)), (12, v1), (13, (ptr b3 0)), (14, (.int .i64 x5)), (15, v16), (16, v17), (17, (ptr b5 0)), (18, (ptr b6 0)), (19, v22), (20, (ptr b7 0)), (21, (.int .i64 x19.2.2)), (92, (.bool true))]) ⟨rfl, rfl, rfl, rfl, rfl, rfl, rfl, rfl, rfl, rfl, rfl, rfl, rfl, rfl, rfl, rfl, trivial⟩ ?_
                  exact ⟨true, rfl, rfl, ((Keep.of hB25).then hB26).below, hC40⟩
                · replace hr15 := ite_f hr15 hc6
                  refine WL_guard rfl rfl ?_
                  refine WL_move rfl rfl ?_
                  refine WL_guard rfl rfl ?_
                  refine WL_move rfl rfl ?_
                  refine WL_guard rfl rfl ?_
                  refine WL_neq rfl rfl rfl ?_
                  refine WL_pick_f rfl rfl rfl ?_
                  refine WL_nil ?_
                  have hq8 := Option.some.inj hr15
                  subst hq8
                  refine nrm_sub (l' := [(0, u1), (1, u2), (4, (.int .i64 a5)), (7, (ptr b1 0)), (8, (ptr b2 0)), (12, v1), (13, (ptr b3 0)), (14, (.int .i64 x5)), (15, v16), (16, v17), (17, (ptr b5 0)), (18, (ptr b6 0)), (19, v22), (20, (ptr b7 0)), (21, (.int .i64 x19.2.2)), (92, (.bool (!decide (x19.2.2 = x5))))]) ⟨rfl, rfl, rfl, rfl, rfl, rfl, rfl, rfl, rfl, rfl, rfl, rfl, rfl, rfl, rfl, rfl, trivial⟩ ?_
                  exact ⟨(!decide (x19.2.2 = x5)), rfl, rfl, ((Keep.of hB25).then hB26).below, hC40⟩
            · rintro _ w28 ⟨x20, rfl, rfl, hB24, hC38⟩
              try dsimp only at hF
              refine W_cond rfl (fun hc7 => ?_) (fun hc7 => ?_)
              · replace hF := ite_t hF hc7
                refine W_seq_reg ?_
                refine WL_assign rfl rfl ?_
                refine WL_nil ?_
                refine W_ret ?_
                refine nrm_ret ?_
                have hq9 := Option.some.inj hF
                subst hq9
                refine fn_ret1 rfl rfl ?_
                exact ⟨_, rfl, bool_res hC38 _⟩
              · replace hF := ite_f hF hc7
                refine W_skip ?_
                refine nrm_normal ?_
                refine W_seq ?_
                refine W_seq_reg ?_
                refine WL_move rfl rfl ?_
                refine WL_move rfl rfl ?_
                obtain ⟨x23, hr18, hF⟩ := bind_some hF
                refine WL_call Try.call8 rfl rfl (c_Q_toIntS a1 u1 (g1.now hC38.keep) x23 hr18) ?_
                rintro v26 w31 ⟨hB27, F16, hv21, hn12, hb12⟩
                have hC41 := hC38.push hB27 (A := Item.own v26 x23) hv21 hn12 hb12
                obtain ⟨x24, hr19, hF⟩ := bind_some hF
                refine WL_call Try.call15 rfl rfl (c_Q_eqIntS x15 v16 ((hC41.ro 9 rfl).now (Keep.refl _ _)) x23 v26 ((hC41.ro 0 rfl).now (Keep.refl _ _)) x24 hr19) ?_
                intro _ w32 hv22
                obtain ⟨rfl, hB28⟩ := res_bool hv22
                have hC42 := hC41.grow hB28
                refine WL_not rfl rfl ?_
                refine WL_nil ?_
                refine W_cond rfl (fun hc8 => ?_) (fun hc8 => ?_)
                · replace hF := ite_t hF hc8
                  refine W_seq_reg ?_
                  refine WL_assign rfl rfl ?_
                  refine WL_nil ?_
                  refine W_ret ?_
                  refine nrm_ret ?_
                  have hq10 := Option.some.inj hF
                  subst hq10
                  refine fn_ret1 rfl rfl ?_
                  exact ⟨_, rfl, bool_res hC42 _⟩
                · replace hF := ite_f hF hc8
                  refine W_skip ?_
                  refine nrm_normal ?_
                  refine W_seq ?_
                  refine W_seq_reg ?_
                  refine WL_move rfl rfl ?_
                  refine WL_move rfl rfl ?_
                  obtain ⟨x25, hr20, hF⟩ := bind_some hF
                  refine WL_call Try.call9 rfl rfl (c_Q_toMethodS a2 u2 (g2.now hC42.keep) x25 hr20) ?_
                  rintro v27 w33 ⟨hB29, F17, hv23, hn13, hb13⟩
                  have hC43 := hC42.push hB29 (A := Item.own v27 x25) hv23 hn13 hb13
                  obtain ⟨x26, hr21, hF⟩ := bind_some hF
                  refine WL_call Try.call16 rfl rfl (c_Q_eqMethodS x16 v17 ((hC43.ro 9 rfl).now (Keep.refl _ _)) x25 v27 ((hC43.ro 0 rfl).now (Keep.refl _ _)) x26 hr21) ?_
                  intro _ w34 hv24
                  obtain ⟨rfl, hB30⟩ := res_bool hv24
                  have hC44 := hC43.grow hB30
                  refine WL_not rfl rfl ?_
                  refine WL_nil ?_
                  refine W_cond rfl (fun hc9 => ?_) (fun hc9 => ?_)
                  · replace hF := ite_t hF hc9
                    refine W_seq_reg ?_
                    refine WL_assign rfl rfl ?_
                    refine WL_nil ?_
                    refine W_ret ?_
                    refine nrm_ret ?_
                    have hq11 := Option.some.inj hF
                    subst hq11
                    refine fn_ret1 rfl rfl ?_
                    exact ⟨_, rfl, bool_res hC44 _⟩
                  · replace hF := ite_f hF hc9
                    refine W_skip ?_
                    refine nrm_normal ?_
                    refine W_seq ?_
                    refine W_seq ?_
                    refine W_drawn 5 rfl hmix (fun w35 hB31 => ?_)
                    have hC45 := hC44.grow hB31
                    obtain ⟨x27, hr22, hF⟩ := bind_some hF
                    refine WA.sub (l' := [(0, u1), (1, u2), (4, (.int .i64 a5)), (7, (ptr b1 0)), (8, (ptr b2 0)), (12, v1), (13, (ptr b3 0)), (14, (.int .i64 x5)), (15, v16), (16, v17), (17, (ptr b5 0)), (18, (ptr b6 0)), (19, v22), (20, (ptr b7 0)), (21, (.int .i64 x19.2.2)), (92, (.bool x20)), (93, v16), (94, u1), (95, v26), (96, (.bool x24)), (97, (.bool (!x24))), (98, v17), (99, u2), (100, v27), (101, (.bool x26)), (102, (.bool (!x26)))]) ?_ ⟨rfl, rfl, rfl, rfl, rfl, rfl, rfl, rfl, rfl, rfl, rfl, rfl, rfl, rfl, rfl, rfl, rfl, rfl, rfl, rfl, rfl, rfl, rfl, rfl, rfl, rfl, trivial⟩
                    refine WA_postsE [⟨0, [], fun vs => PW.val (.agg #[v19, (.int .i64 x17.2)]), []⟩, ⟨1, [], fun vs => PW.val (.agg #[u3, (.int .i64 a3.2)]), []⟩, ⟨2, [], fun vs => PW.own x27, []⟩] [[], [], [1]] 2 rfl (by kernel_rfl) (by kernel_rfl) rfl ?_ ?_
                    · refine StepsE_cons rfl ?_ ?_
                      · intro w37 hB33
                        refine DepsE_nil ?_
                        refine ⟨_, rfl, ?_⟩
                        refine WL_load_box_agg [v19, (.int .i64 x17.2)] (hC45.grow hB33) 7 rfl rfl rfl Try.isAgg44 Try.sizeOf44 rfl rfl ?_
                        refine WL_nil ?_
                        exact FinE_val (Below.refl _ _) rfl rfl ⟨rfl, rfl⟩
                      refine StepsE_cons rfl ?_ ?_
                      · intro w37 hB33
                        refine DepsE_nil ?_
                        refine ⟨_, rfl, ?_⟩
                        refine WL_load_box_agg [u3, (.int .i64 a3.2)] (hC45.grow hB33) 15 rfl rfl rfl Try.isAgg26 Try.sizeOf26 rfl rfl ?_
                        refine WL_nil ?_
                        exact FinE_val (Below.refl _ _) rfl rfl ⟨rfl, rfl⟩
                      refine StepsE_cons rfl ?_ ?_
                      · intro w37 hB33
                        refine DepsE_cons rfl rfl rfl ?_
                        rintro _ _ ⟨rfl, rfl⟩ _
                        refine DepsE_nil ?_
                        refine ⟨_, rfl, ?_⟩
                        refine WL_call Try.call10 rfl rfl (c_Q_toSource (a3.1, a3.2) u3 (g3.now (hC45.keep.then hB33)) x27 hr22) ?_
                        rintro v28 w36 ⟨hB32, F18, hv25, hn14, hb14⟩
                        refine WL_nil ?_
                        exact FinE_own hB32 rfl rfl hv25 hn14 hb14 (Val.inh hv25)
                      exact StepsE_nil
                    · intro w38 hB34
                      refine AllE_cons rfl rfl rfl ?_
                      rintro _ _ ⟨rfl, rfl⟩
                      refine AllE_cons rfl rfl rfl ?_
                      rintro _ _ ⟨rfl, rfl⟩
                      refine AllE_cons rfl rfl rfl ?_
                      intro v28 F18 hv25
                      refine AllE_nil ?_
                      intro hn15 hb15
                      have hC46 := hC45.pushL hB34 (Bs := [Item.own v28 (x27 : ((List (Int × (List Int))) × Int))]) (Fs := [F18]) ⟨F18, _, rfl, hv25, rfl⟩ (by simpa using hn15) (fun b h => (hb15 b (by simpa using h)).1)
                      obtain ⟨v30, rfl, hC47⟩ := st44_own hC46
                      obtain ⟨x28, hr23, hF⟩ := bind_some hF
                      refine WA_one 3 (by kernel_rfl) rfl ?_
                      refine WL_call Try.call17 rfl rfl (c_Q_eqSource (x17.1, x17.2) v19 ((hC47.ro 9 rfl).now (Keep.refl _ _)) x27 v30 ((hC47.ro 0 rfl).now (Keep.refl _ _)) x28 hr23) ?_
                      intro _ w39 hv26
                      obtain ⟨rfl, hB35⟩ := res_bool hv26
                      have hC48 := hC47.grow hB35
                      refine WL_nil ?_
                      refine WA_take 4 rfl (by kernel_rfl) (by kernel_rfl) (by kernel_rfl) rfl (fl_not rfl) ?_
                      refine WL_not rfl rfl ?_
                      refine WL_nil ?_
                      refine WA_done (by kernel_rfl) ?_
                      refine nrm_normal ?_
                      refine W_cond rfl (fun hc10 => ?_) (fun hc10 => ?_)
                      · replace hF := ite_t hF hc10
                        refine W_seq_reg ?_
                        refine WL_assign rfl rfl ?_
                        refine WL_nil ?_
                        refine W_ret ?_
                        refine nrm_ret ?_
                        have hq12 := Option.some.inj hF
                        subst hq12
                        refine fn_ret1 rfl rfl ?_
                        exact ⟨_, rfl, bool_res hC48 _⟩
                      · replace hF := ite_f hF hc10
                        refine W_skip ?_
                        refine nrm_normal ?_
                        refine W_seq ?_
                        refine W_seq ?_
                        refine W_drawn 5 rfl hmix (fun w40 hB36 => ?_)
                        have hC49 := hC48.grow hB36
                        obtain ⟨x29, hr24, hF⟩ := bind_some hF
                        refine WA.sub (l' := [(0, u1), (1, u2), (4, (.int .i64 a5)), (7, (ptr b1 0)), (8, (ptr b2 0)), (12, v1), (13, (ptr b3 0)), (14, (.int .i64 x5)), (15, v16), (16, v17), (17, (ptr b5 0)), (18, (ptr b6 0)), (19, v22), (20, (ptr b7 0)), (21, (.int .i64 x19.2.2)), (92, (.bool x20)), (93, v16), (94, u1), (95, v26), (96, (.bool x24)), (97, (.bool (!x24))), (98, v17), (99, u2), (100, v27), (101, (.bool x26)), (102, (.bool (!x26))), (103, (.agg #[v19, (.int .i64 x17.2)])), (104, (.agg #[u3, (.int .i64 a3.2)])), (105, (.agg #[v30, (.int .i64 x27.2)])), (106, (.bool x28)), (107, (.bool (!x28)))]) ?_ ⟨rfl, rfl, rfl, rfl, rfl, rfl, rfl, rfl, rfl, rfl, rfl, rfl, rfl, rfl, rfl, rfl, rfl, rfl, rfl, rfl, rfl, rfl, rfl, rfl, rfl, rfl, rfl, rfl, rfl, rfl, rfl, trivial⟩
                        refine WA_postsE [⟨0, [], fun vs => PW.val (.agg #[(.int .i64 x18.1.1), v21, (.int .i64 x18.2.1), (.int .i64 x18.2.2)]), []⟩, ⟨1, [], fun vs => PW.val (.agg #[(.int .i64 a4.1.1), u4, (.int .i64 a4.2.1), (.int .i64 a4.2.2)]), []⟩, ⟨2, [], fun vs => PW.own x29, []⟩] [[], [], [1]] 2 rfl (by kernel_rfl) (by kernel_rfl) rfl ?_ ?_
                        · refine StepsE_cons rfl ?_ ?_
                          · intro w42 hB38
                            refine DepsE_nil ?_
                            refine ⟨_, rfl, ?_⟩
                            refine WL_load_box_agg [(.int .i64 x18.1.1), v21, (.int .i64 x18.2.1), (.int .i64 x18.2.2)] (hC49.grow hB38) 6 rfl rfl rfl Try.isAgg37 Try.sizeOf37 rfl rfl ?_
                            refine WL_nil ?_
                            exact FinE_val (Below.refl _ _) rfl rfl ⟨rfl, rfl⟩
                          refine StepsE_cons rfl ?_ ?_
                          · intro w42 hB38
                            refine DepsE_nil ?_
                            refine ⟨_, rfl, ?_⟩
                            refine WL_load_box_agg [(.int .i64 a4.1.1), u4, (.int .i64 a4.2.1), (.int .i64 a4.2.2)] (hC49.grow hB38) 15 rfl rfl rfl Try.isAgg30 Try.sizeOf30 rfl rfl ?_
                            refine WL_nil ?_
                            exact FinE_val (Below.refl _ _) rfl rfl ⟨rfl, rfl⟩
                          refine StepsE_cons rfl ?_ ?_
                          · intro w42 hB38
                            refine DepsE_cons rfl rfl rfl ?_
                            rintro _ _ ⟨rfl, rfl⟩ _
                            refine DepsE_nil ?_
                            refine ⟨_, rfl, ?_⟩
                            refine WL_call Try.call11 rfl rfl (c_Q_toCursor ((a4.1.1, a4.1.2), a4.2.1, a4.2.2) u4 (g4.now (hC49.keep.then hB38)) x29 hr24) ?_
                            rintro v31 w41 ⟨hB37, F19, hv27, hn16, hb16⟩
                            refine WL_nil ?_
                            exact FinE_own hB37 rfl rfl hv27 hn16 hb16 (Val.inh hv27)
                          exact StepsE_nil
                        · intro w43 hB39
                          refine AllE_cons rfl rfl rfl ?_
                          rintro _ _ ⟨rfl, rfl⟩
                          refine AllE_cons rfl rfl rfl ?_
                          rintro _ _ ⟨rfl, rfl⟩
                          refine AllE_cons rfl rfl rfl ?_
                          intro v31 F19 hv27
                          refine AllE_nil ?_
                          intro hn17 hb17
                          have hC50 := hC49.pushL hB39 (Bs := [Item.own v31 (x29 : ((Int × (List Int)) × Int × Int))]) (Fs := [F19]) ⟨F19, _, rfl, hv27, rfl⟩ (by simpa using hn17) (fun b h => (hb17 b (by simpa using h)).1)
                          obtain ⟨v33, rfl, hC51⟩ := st37_own hC50
                          obtain ⟨x30, hr25, hF⟩ := bind_some hF
                          refine WA_one 3 (by kernel_rfl) rfl ?_
                          refine WL_call Try.call14 rfl rfl (c_Q_eqCursor ((x18.1.1, x18.1.2), x18.2.1, x18.2.2) v21 ((hC51.ro 8 rfl).now (Keep.refl _ _)) x29 v33 ((hC51.ro 0 rfl).now (Keep.refl _ _)) x30 hr25) ?_
                          intro _ w44 hv28
                          obtain ⟨rfl, hB40⟩ := res_bool hv28
                          have hC52 := hC51.grow hB40
                          refine WL_nil ?_
                          refine WA_take 4 rfl (by kernel_rfl) (by kernel_rfl) (by kernel_rfl) rfl (fl_not rfl) ?_
                          refine WL_not rfl rfl ?_
                          refine WL_nil ?_
                          refine WA_done (by kernel_rfl) ?_
                          refine nrm_normal ?_
                          refine W_cond rfl (fun hc11 => ?_) (fun hc11 => ?_)
                          · replace hF := ite_t hF hc11
                            refine W_seq_reg ?_
                            refine WL_assign rfl rfl ?_
                            refine WL_nil ?_
                            refine W_ret ?_
                            refine nrm_ret ?_
                            have hq13 := Option.some.inj hF
                            subst hq13
                            refine fn_ret1 rfl rfl ?_
                            exact ⟨_, rfl, bool_res hC52 _⟩
                          · replace hF := ite_f hF hc11
                            refine W_skip ?_
                            refine nrm_normal ?_
                            refine W_seq_reg ?_
                            refine WL_assign rfl rfl ?_
                            refine WL_nil ?_
                            refine W_seq_reg ?_
                            refine WL_move rfl rfl ?_
                            refine WL_move rfl rfl ?_
                            obtain ⟨x31, hr26, hF⟩ := bind_some hF
                            have hC53 : Ctx [] w0 _ [Item.own v16 (x15 : (List Int)), Item.own v33 (x29.1.2 : (List Int)), Item.own v30 (x27.1 : (List (Int × (List Int)))), Item.own v27 (x25 : (List (Int × (List Int) × Int × Int × Int))), Item.own v26 (x23 : (List Int)), Item.box b7 [(.int .i64 x19.2.1.1.1), v25, (.int .i64 x19.2.1.2.1), (.int .i64 x19.2.1.2.2)], Item.own v25 (x19.2.1.1.2 : (List Int)), Item.own v22 (x19.1 : (List (Int × (List Int)))), Item.box b6 [(.int .i64 x18.1.1), v21, (.int .i64 x18.2.1), (.int .i64 x18.2.2)], Item.own v21 (x18.1.2 : (List Int)), Item.box b5 [v19, (.int .i64 x17.2)], Item.own v19 (x17.1 : (List (Int × (List Int)))), Item.own v17 (x16 : (List (Int × (List Int) × Int × Int × Int))), Item.box b3 [(.int .i64 x6), v2, (.int .i64 x8), (.int .i64 x9)], Item.own v2 (x7 : (List Int)), Item.own v1 (x4 : (List (Int × (List Int)))), Item.box b2 [(.int .i64 a4.1.1), u4, (.int .i64 a4.2.1), (.int .i64 a4.2.2)], Item.box b1 [u3, (.int .i64 a3.2)]] := hC52.front 12 rfl
                            obtain ⟨Fs1, hH1, hn18, hF1, hO1, hb18⟩ := Ctx.lend2 (As := [Item.own v33 (x29.1.2 : (List Int)), Item.own v30 (x27.1 : (List (Int × (List Int)))), Item.own v27 (x25 : (List (Int × (List Int) × Int × Int × Int))), Item.own v26 (x23 : (List Int)), Item.box b7 [(.int .i64 x19.2.1.1.1), v25, (.int .i64 x19.2.1.2.1), (.int .i64 x19.2.1.2.2)], Item.own v25 (x19.2.1.1.2 : (List Int)), Item.own v22 (x19.1 : (List (Int × (List Int)))), Item.box b6 [(.int .i64 x18.1.1), v21, (.int .i64 x18.2.1), (.int .i64 x18.2.2)], Item.own v21 (x18.1.2 : (List Int)), Item.box b5 [v19, (.int .i64 x17.2)], Item.own v19 (x17.1 : (List (Int × (List Int)))), Item.own v17 (x16 : (List (Int × (List Int) × Int × Int × Int))), Item.box b3 [(.int .i64 x6), v2, (.int .i64 x8), (.int .i64 x9)], Item.own v2 (x7 : (List Int)), Item.own v1 (x4 : (List (Int × (List Int)))), Item.box b2 [(.int .i64 a4.1.1), u4, (.int .i64 a4.2.1), (.int .i64 a4.2.2)], Item.box b1 [u3, (.int .i64 a3.2)]]) [Item.own v16 (x15 : (List Int))] hC53
                            refine WL_call Try.call18 rfl rfl (c_Q_markIntS x15 v16 1 hH1 hn18 x31 hr26) ?_
                            rintro _ w45 ⟨rfl, hq14⟩
                            have hC54 : Ctx [] w0 w45 [Item.own v16 (x31.2 : (List Int)), Item.own v33 (x29.1.2 : (List Int)), Item.own v30 (x27.1 : (List (Int × (List Int)))), Item.own v27 (x25 : (List (Int × (List Int) × Int × Int × Int))), Item.own v26 (x23 : (List Int)), Item.box b7 [(.int .i64 x19.2.1.1.1), v25, (.int .i64 x19.2.1.2.1), (.int .i64 x19.2.1.2.2)], Item.own v25 (x19.2.1.1.2 : (List Int)), Item.own v22 (x19.1 : (List (Int × (List Int)))), Item.box b6 [(.int .i64 x18.1.1), v21, (.int .i64 x18.2.1), (.int .i64 x18.2.2)], Item.own v21 (x18.1.2 : (List Int)), Item.box b5 [v19, (.int .i64 x17.2)], Item.own v19 (x17.1 : (List (Int × (List Int)))), Item.own v17 (x16 : (List (Int × (List Int) × Int × Int × Int))), Item.box b3 [(.int .i64 x6), v2, (.int .i64 x8), (.int .i64 x9)], Item.own v2 (x7 : (List Int)), Item.own v1 (x4 : (List (Int × (List Int)))), Item.box b2 [(.int .i64 a4.1.1), u4, (.int .i64 a4.2.1), (.int .i64 a4.2.2)], Item.box b1 [u3, (.int .i64 a3.2)]] := hb18 _ _ hq14
                            refine WL_assign rfl rfl ?_
                            refine WL_nil ?_
                            refine W_seq_reg ?_
                            refine WL_move rfl rfl ?_
                            refine WL_move rfl rfl ?_
                            obtain ⟨x32, hr27, hF⟩ := bind_some hF
                            have hC55 : Ctx [] w0 _ [Item.own v17 (x16 : (List (Int × (List Int) × Int × Int × Int))), Item.own v16 (x31.2 : (List Int)), Item.own v33 (x29.1.2 : (List Int)), Item.own v30 (x27.1 : (List (Int × (List Int)))), Item.own v27 (x25 : (List (Int × (List Int) × Int × Int × Int))), Item.own v26 (x23 : (List Int)), Item.box b7 [(.int .i64 x19.2.1.1.1), v25, (.int .i64 x19.2.1.2.1), (.int .i64 x19.2.1.2.2)], Item.own v25 (x19.2.1.1.2 : (List Int)), Item.own v22 (x19.1 : (List (Int × (List Int)))), Item.box b6 [(.int .i64 x18.1.1), v21, (.int .i64 x18.2.1), (.int .i64 x18.2.2)], Item.own v21 (x18.1.2 : (List Int)), Item.box b5 [v19, (.int .i64 x17.2)], Item.own v19 (x17.1 : (List (Int × (List Int)))), Item.box b3 [(.int .i64 x6), v2, (.int .i64 x8), (.int .i64 x9)], Item.own v2 (x7 : (List Int)), Item.own v1 (x4 : (List (Int × (List Int)))), Item.box b2 [(.int .i64 a4.1.1), u4, (.int .i64 a4.2.1), (.int .i64 a4.2.2)], Item.box b1 [u3, (.int .i64 a3.2)]] := hC54.front 12 rfl
                            obtain ⟨Fs2, hH2, hn19, hF2, hO2, hb19⟩ := Ctx.lend2 (As := [Item.own v16 (x31.2 : (List Int)), Item.own v33 (x29.1.2 : (List Int)), Item.own v30 (x27.1 : (List (Int × (List Int)))), Item.own v27 (x25 : (List (Int × (List Int) × Int × Int × Int))), Item.own v26 (x23 : (List Int)), Item.box b7 [(.int .i64 x19.2.1.1.1), v25, (.int .i64 x19.2.1.2.1), (.int .i64 x19.2.1.2.2)], Item.own v25 (x19.2.1.1.2 : (List Int)), Item.own v22 (x19.1 : (List (Int × (List Int)))), Item.box b6 [(.int .i64 x18.1.1), v21, (.int .i64 x18.2.1), (.int .i64 x18.2.2)], Item.own v21 (x18.1.2 : (List Int)), Item.box b5 [v19, (.int .i64 x17.2)], Item.own v19 (x17.1 : (List (Int × (List Int)))), Item.box b3 [(.int .i64 x6), v2, (.int .i64 x8), (.int .i64 x9)], Item.own v2 (x7 : (List Int)), Item.own v1 (x4 : (List (Int × (List Int)))), Item.box b2 [(.int .i64 a4.1.1), u4, (.int .i64 a4.2.1), (.int .i64 a4.2.2)], Item.box b1 [u3, (.int .i64 a3.2)]]) [Item.own v17 (x16 : (List (Int × (List Int) × Int × Int × Int)))] hC55
                            refine WL_call Try.call19 rfl rfl (c_Q_markMethodS x16 v17 x31.1 hH2 hn19 x32 hr27) ?_
                            rintro _ w46 ⟨rfl, hq15⟩
                            have hC56 : Ctx [] w0 w46 [Item.own v17 (x32.2 : (List (Int × (List Int) × Int × Int × Int))), Item.own v16 (x31.2 : (List Int)), Item.own v33 (x29.1.2 : (List Int)), Item.own v30 (x27.1 : (List (Int × (List Int)))), Item.own v27 (x25 : (List (Int × (List Int) × Int × Int × Int))), Item.own v26 (x23 : (List Int)), Item.box b7 [(.int .i64 x19.2.1.1.1), v25, (.int .i64 x19.2.1.2.1), (.int .i64 x19.2.1.2.2)], Item.own v25 (x19.2.1.1.2 : (List Int)), Item.own v22 (x19.1 : (List (Int × (List Int)))), Item.box b6 [(.int .i64 x18.1.1), v21, (.int .i64 x18.2.1), (.int .i64 x18.2.2)], Item.own v21 (x18.1.2 : (List Int)), Item.box b5 [v19, (.int .i64 x17.2)], Item.own v19 (x17.1 : (List (Int × (List Int)))), Item.box b3 [(.int .i64 x6), v2, (.int .i64 x8), (.int .i64 x9)], Item.own v2 (x7 : (List Int)), Item.own v1 (x4 : (List (Int × (List Int)))), Item.box b2 [(.int .i64 a4.1.1), u4, (.int .i64 a4.2.1), (.int .i64 a4.2.2)], Item.box b1 [u3, (.int .i64 a3.2)]] := hb19 _ _ hq15
                            refine WL_assign rfl rfl ?_
                            refine WL_nil ?_
                            refine W_seq_reg ?_
                            refine WL_load_box_agg [v19, (.int .i64 x17.2)] hC56 11 rfl rfl rfl Try.isAgg44 Try.sizeOf44 rfl rfl ?_
                            refine WL_move rfl rfl ?_
                            obtain ⟨x33, hr28, hF⟩ := bind_some hF
                            have hC57 : Ctx [] w0 _ [Item.own v19 (x17.1 : (List (Int × (List Int)))), Item.own v17 (x32.2 : (List (Int × (List Int) × Int × Int × Int))), Item.own v16 (x31.2 : (List Int)), Item.own v33 (x29.1.2 : (List Int)), Item.own v30 (x27.1 : (List (Int × (List Int)))), Item.own v27 (x25 : (List (Int × (List Int) × Int × Int × Int))), Item.own v26 (x23 : (List Int)), Item.box b7 [(.int .i64 x19.2.1.1.1), v25, (.int .i64 x19.2.1.2.1), (.int .i64 x19.2.1.2.2)], Item.own v25 (x19.2.1.1.2 : (List Int)), Item.own v22 (x19.1 : (List (Int × (List Int)))), Item.box b6 [(.int .i64 x18.1.1), v21, (.int .i64 x18.2.1), (.int .i64 x18.2.2)], Item.own v21 (x18.1.2 : (List Int)), Item.box b5 [v19, (.int .i64 x17.2)], Item.box b3 [(.int .i64 x6), v2, (.int .i64 x8), (.int .i64 x9)], Item.own v2 (x7 : (List Int)), Item.own v1 (x4 : (List (Int × (List Int)))), Item.box b2 [(.int .i64 a4.1.1), u4, (.int .i64 a4.2.1), (.int .i64 a4.2.2)], Item.box b1 [u3, (.int .i64 a3.2)]] := hC56.front 12 rfl
                            obtain ⟨Fs3, hH3, hn20, hF3, hO3, hb20⟩ := Ctx.lend2 (As := [Item.own v17 (x32.2 : (List (Int × (List Int) × Int × Int × Int))), Item.own v16 (x31.2 : (List Int)), Item.own v33 (x29.1.2 : (List Int)), Item.own v30 (x27.1 : (List (Int × (List Int)))), Item.own v27 (x25 : (List (Int × (List Int) × Int × Int × Int))), Item.own v26 (x23 : (List Int)), Item.box b7 [(.int .i64 x19.2.1.1.1), v25, (.int .i64 x19.2.1.2.1), (.int .i64 x19.2.1.2.2)], Item.own v25 (x19.2.1.1.2 : (List Int)), Item.own v22 (x19.1 : (List (Int × (List Int)))), Item.box b6 [(.int .i64 x18.1.1), v21, (.int .i64 x18.2.1), (.int .i64 x18.2.2)], Item.own v21 (x18.1.2 : (List Int)), Item.box b5 [v19, (.int .i64 x17.2)], Item.box b3 [(.int .i64 x6), v2, (.int .i64 x8), (.int .i64 x9)], Item.own v2 (x7 : (List Int)), Item.own v1 (x4 : (List (Int × (List Int)))), Item.box b2 [(.int .i64 a4.1.1), u4, (.int .i64 a4.2.1), (.int .i64 a4.2.2)], Item.box b1 [u3, (.int .i64 a3.2)]]) [Item.own v19 (x17.1 : (List (Int × (List Int))))] hC57
                            refine WL_call Try.call20 rfl rfl (c_Q_markSource (x17.1, x17.2) v19 x32.1 hH3 hn20 x33 hr28) ?_
                            rintro _ w47 ⟨rfl, hq16⟩
                            have hC58 : Ctx [] w0 w47 [Item.own v19 (x33.2.1 : (List (Int × (List Int)))), Item.own v17 (x32.2 : (List (Int × (List Int) × Int × Int × Int))), Item.own v16 (x31.2 : (List Int)), Item.own v33 (x29.1.2 : (List Int)), Item.own v30 (x27.1 : (List (Int × (List Int)))), Item.own v27 (x25 : (List (Int × (List Int) × Int × Int × Int))), Item.own v26 (x23 : (List Int)), Item.box b7 [(.int .i64 x19.2.1.1.1), v25, (.int .i64 x19.2.1.2.1), (.int .i64 x19.2.1.2.2)], Item.own v25 (x19.2.1.1.2 : (List Int)), Item.own v22 (x19.1 : (List (Int × (List Int)))), Item.box b6 [(.int .i64 x18.1.1), v21, (.int .i64 x18.2.1), (.int .i64 x18.2.2)], Item.own v21 (x18.1.2 : (List Int)), Item.box b5 [v19, (.int .i64 x17.2)], Item.box b3 [(.int .i64 x6), v2, (.int .i64 x8), (.int .i64 x9)], Item.own v2 (x7 : (List Int)), Item.own v1 (x4 : (List (Int × (List Int)))), Item.box b2 [(.int .i64 a4.1.1), u4, (.int .i64 a4.2.1), (.int .i64 a4.2.2)], Item.box b1 [u3, (.int .i64 a3.2)]] := hb20 _ _ hq16
                            refine WL_assign rfl rfl ?_
                            refine WL_nil ?_
                            refine W_seq_reg ?_
                            refine WL_load_box_agg [(.int .i64 x18.1.1), v21, (.int .i64 x18.2.1), (.int .i64 x18.2.2)] hC58 10 rfl rfl rfl Try.isAgg37 Try.sizeOf37 rfl rfl ?_
                            refine WL_move rfl rfl ?_
                            obtain ⟨x34, hr29, hF⟩ := bind_some hF
                            have hC59 : Ctx [] w0 _ [Item.own v21 (x18.1.2 : (List Int)), Item.own v19 (x33.2.1 : (List (Int × (List Int)))), Item.own v17 (x32.2 : (List (Int × (List Int) × Int × Int × Int))), Item.own v16 (x31.2 : (List Int)), Item.own v33 (x29.1.2 : (List Int)), Item.own v30 (x27.1 : (List (Int × (List Int)))), Item.own v27 (x25 : (List (Int × (List Int) × Int × Int × Int))), Item.own v26 (x23 : (List Int)), Item.box b7 [(.int .i64 x19.2.1.1.1), v25, (.int .i64 x19.2.1.2.1), (.int .i64 x19.2.1.2.2)], Item.own v25 (x19.2.1.1.2 : (List Int)), Item.own v22 (x19.1 : (List (Int × (List Int)))), Item.box b6 [(.int .i64 x18.1.1), v21, (.int .i64 x18.2.1), (.int .i64 x18.2.2)], Item.box b5 [v19, (.int .i64 x17.2)], Item.box b3 [(.int .i64 x6), v2, (.int .i64 x8), (.int .i64 x9)], Item.own v2 (x7 : (List Int)), Item.own v1 (x4 : (List (Int × (List Int)))), Item.box b2 [(.int .i64 a4.1.1), u4, (.int .i64 a4.2.1), (.int .i64 a4.2.2)], Item.box b1 [u3, (.int .i64 a3.2)]] := hC58.front 11 rfl
                            obtain ⟨Fs4, hH4, hn21, hF4, hO4, hb21⟩ := Ctx.lend2 (As := [Item.own v19 (x33.2.1 : (List (Int × (List Int)))), Item.own v17 (x32.2 : (List (Int × (List Int) × Int × Int × Int))), Item.own v16 (x31.2 : (List Int)), Item.own v33 (x29.1.2 : (List Int)), Item.own v30 (x27.1 : (List (Int × (List Int)))), Item.own v27 (x25 : (List (Int × (List Int) × Int × Int × Int))), Item.own v26 (x23 : (List Int)), Item.box b7 [(.int .i64 x19.2.1.1.1), v25, (.int .i64 x19.2.1.2.1), (.int .i64 x19.2.1.2.2)], Item.own v25 (x19.2.1.1.2 : (List Int)), Item.own v22 (x19.1 : (List (Int × (List Int)))), Item.box b6 [(.int .i64 x18.1.1), v21, (.int .i64 x18.2.1), (.int .i64 x18.2.2)], Item.box b5 [v19, (.int .i64 x17.2)], Item.box b3 [(.int .i64 x6), v2, (.int .i64 x8), (.int .i64 x9)], Item.own v2 (x7 : (List Int)), Item.own v1 (x4 : (List (Int × (List Int)))), Item.box b2 [(.int .i64 a4.1.1), u4, (.int .i64 a4.2.1), (.int .i64 a4.2.2)], Item.box b1 [u3, (.int .i64 a3.2)]]) [Item.own v21 (x18.1.2 : (List Int))] hC59
                            refine WL_call Try.call21 rfl rfl (c_Q_markCursor ((x18.1.1, x18.1.2), x18.2.1, x18.2.2) v21 x33.1 hH4 hn21 x34 hr29) ?_
                            rintro _ w48 ⟨rfl, hq17⟩
                            have hC60 : Ctx [] w0 w48 [Item.own v21 (x34.2.1.2 : (List Int)), Item.own v19 (x33.2.1 : (List (Int × (List Int)))), Item.own v17 (x32.2 : (List (Int × (List Int) × Int × Int × Int))), Item.own v16 (x31.2 : (List Int)), Item.own v33 (x29.1.2 : (List Int)), Item.own v30 (x27.1 : (List (Int × (List Int)))), Item.own v27 (x25 : (List (Int × (List Int) × Int × Int × Int))), Item.own v26 (x23 : (List Int)), Item.box b7 [(.int .i64 x19.2.1.1.1), v25, (.int .i64 x19.2.1.2.1), (.int .i64 x19.2.1.2.2)], Item.own v25 (x19.2.1.1.2 : (List Int)), Item.own v22 (x19.1 : (List (Int × (List Int)))), Item.box b6 [(.int .i64 x18.1.1), v21, (.int .i64 x18.2.1), (.int .i64 x18.2.2)], Item.box b5 [v19, (.int .i64 x17.2)], Item.box b3 [(.int .i64 x6), v2, (.int .i64 x8), (.int .i64 x9)], Item.own v2 (x7 : (List Int)), Item.own v1 (x4 : (List (Int × (List Int)))), Item.box b2 [(.int .i64 a4.1.1), u4, (.int .i64 a4.2.1), (.int .i64 a4.2.2)], Item.box b1 [u3, (.int .i64 a3.2)]] := hb21 _ _ hq17
                            refine WL_assign rfl rfl ?_
                            refine WL_nil ?_
                            refine W_seq ?_
                            obtain ⟨r3, hr30, hF⟩ := bind_some hF
                            refine W_cut (fun l w => ∃ x35 : Bool, x35 = r3 ∧ l = [(0, u1), (1, u2), (4, (.int .i64 a5)), (7, (ptr b1 0)), (8, (ptr b2 0)), (12, v1), (13, (ptr b3 0)), (14, (.int .i64 x5)), (19, v22), (20, (ptr b7 0)), (143, (.bool x35))] ∧ Below w48.heap.size w48 w ∧ Ctx [] w0 w [Item.box b7 [(.int .i64 x19.2.1.1.1), v25, (.int .i64 x19.2.1.2.1), (.int .i64 x19.2.1.2.2)], Item.own v25 (x19.2.1.1.2 : (List Int)), Item.own v22 (x19.1 : (List (Int × (List Int)))), Item.box b3 [(.int .i64 x6), v2, (.int .i64 x8), (.int .i64 x9)], Item.own v2 (x7 : (List Int)), Item.own v1 (x4 : (List (Int × (List Int)))), Item.box b2 [(.int .i64 a4.1.1), u4, (.int .i64 a4.2.1), (.int .i64 a4.2.2)], Item.box b1 [u3, (.int .i64 a3.2)]]) ?_ ?_
                            · refine W_reg ?_
                              refine WL_move rfl rfl ?_
                              refine WL_lss rfl rfl rfl ?_
                              refine WL_move rfl rfl ?_
                              refine WL_fork (fun hc12 => ?_) (fun hc12 => ?_)
                              · replace hr30 := ite_t hr30 hc12
                                refine WL_guard_skip rfl rfl (by simp) rfl ?_
                                refine WL_guard_skip rfl rfl (by simp) rfl ?_
                                refine WL_guard_skip rfl rfl (by simp) rfl ?_
                                refine WL_guard_skip rfl rfl (by simp) rfl ?_
                                refine WL_pick_t rfl rfl rfl ?_
                                refine WL_move rfl rfl ?_
                                refine WL_guard_skip rfl rfl (by simp) rfl ?_
                                refine WL_guard_skip rfl rfl (by simp) rfl ?_
                                refine WL_guard_skip rfl rfl (by simp) rfl ?_
                                refine WL_guard_skip rfl rfl (by simp) rfl ?_
                                refine WL_pick_t rfl rfl rfl ?_
                                refine WL_move rfl rfl ?_
                                refine WL_guard_skip rfl rfl (by simp) rfl ?_
                                refine WL_guard_skip rfl rfl (by simp) rfl ?_
                                refine WL_guard_skip rfl rfl (by simp) rfl ?_
                                refine WL_pick_t rfl rfl rfl ?_
                                refine WL_nil ?_
                                have hq18 := Option.some.inj hr30
                                subst hq18
                                have hC62 : Ctx [] w0 _ [Item.box b1 [u3, (.int .i64 a3.2)], Item.own v21 (x34.2.1.2 : (List Int)), Item.own v19 (x33.2.1 : (List (Int × (List Int)))), Item.own v17 (x32.2 : (List (Int × (List Int) × Int × Int × Int))), Item.own v16 (x31.2 : (List Int)), Item.own v33 (x29.1.2 : (List Int)), Item.own v30 (x27.1 : (List (Int × (List Int)))), Item.own v27 (x25 : (List (Int × (List Int) × Int × Int × Int))), Item.own v26 (x23 : (List Int)), Item.box b7 [(.int .i64 x19.2.1.1.1), v25, (.int .i64 x19.2.1.2.1), (.int .i64 x19.2.1.2.2)], Item.own v25 (x19.2.1.1.2 : (List Int)), Item.own v22 (x19.1 : (List (Int × (List Int)))), Item.box b6 [(.int .i64 x18.1.1), v21, (.int .i64 x18.2.1), (.int .i64 x18.2.2)], Item.box b5 [v19, (.int .i64 x17.2)], Item.box b3 [(.int .i64 x6), v2, (.int .i64 x8), (.int .i64 x9)], Item.own v2 (x7 : (List Int)), Item.own v1 (x4 : (List (Int × (List Int)))), Item.box b2 [(.int .i64 a4.1.1), u4, (.int .i64 a4.2.1), (.int .i64 a4.2.2)]] := hC60.front 17 rfl
                                have hC63 : Ctx [] w0 _ [Item.box b2 [(.int .i64 a4.1.1), u4, (.int .i64 a4.2.1), (.int .i64 a4.2.2)], Item.box b1 [u3, (.int .i64 a3.2)], Item.own v21 (x34.2.1.2 : (List Int)), Item.own v19 (x33.2.1 : (List (Int × (List Int)))), Item.own v17 (x32.2 : (List (Int × (List Int) × Int × Int × Int))), Item.own v16 (x31.2 : (List Int)), Item.own v33 (x29.1.2 : (List Int)), Item.own v30 (x27.1 : (List (Int × (List Int)))), Item.own v27 (x25 : (List (Int × (List Int) × Int × Int × Int))), Item.own v26 (x23 : (List Int)), Item.box b7 [(.int .i64 x19.2.1.1.1), v25, (.int .i64 x19.2.1.2.1), (.int .i64 x19.2.1.2.2)], Item.own v25 (x19.2.1.1.2 : (List Int)), Item.own v22 (x19.1 : (List (Int × (List Int)))), Item.box b6 [(.int .i64 x18.1.1), v21, (.int .i64 x18.2.1), (.int .i64 x18.2.2)], Item.box b5 [v19, (.int .i64 x17.2)], Item.box b3 [(.int .i64 x6), v2, (.int .i64 x8), (.int .i64 x9)], Item.own v2 (x7 : (List Int)), Item.own v1 (x4 : (List (Int × (List Int))))] := hC62.front 17 rfl
                                have hC64 : Ctx [] w0 _ [Item.own v1 (x4 : (List (Int × (List Int)))), Item.box b2 [(.int .i64 a4.1.1), u4, (.int .i64 a4.2.1), (.int .i64 a4.2.2)], Item.box b1 [u3, (.int .i64 a3.2)], Item.own v21 (x34.2.1.2 : (List Int)), Item.own v19 (x33.2.1 : (List (Int × (List Int)))), Item.own v17 (x32.2 : (List (Int × (List Int) × Int × Int × Int))), Item.own v16 (x31.2 : (List Int)), Item.own v33 (x29.1.2 : (List Int)), Item.own v30 (x27.1 : (List (Int × (List Int)))), Item.own v27 (x25 : (List (Int × (List Int) × Int × Int × Int))), Item.own v26 (x23 : (List Int)), Item.box b7 [(.int .i64 x19.2.1.1.1), v25, (.int .i64 x19.2.1.2.1), (.int .i64 x19.2.1.2.2)], Item.own v25 (x19.2.1.1.2 : (List Int)), Item.own v22 (x19.1 : (List (Int × (List Int)))), Item.box b6 [(.int .i64 x18.1.1), v21, (.int .i64 x18.2.1), (.int .i64 x18.2.2)], Item.box b5 [v19, (.int .i64 x17.2)], Item.box b3 [(.int .i64 x6), v2, (.int .i64 x8), (.int .i64 x9)], Item.own v2 (x7 : (List Int))] := hC63.front 17 rfl
                                have hC65 : Ctx [] w0 _ [Item.own v2 (x7 : (List Int)), Item.own v1 (x4 : (List (Int × (List Int)))), Item.box b2 [(.int .i64 a4.1.1), u4, (.int .i64 a4.2.1), (.int .i64 a4.2.2)], Item.box b1 [u3, (.int .i64 a3.2)], Item.own v21 (x34.2.1.2 : (List Int)), Item.own v19 (x33.2.1 : (List (Int × (List Int)))), Item.own v17 (x32.2 : (List (Int × (List Int) × Int × Int × Int))), Item.own v16 (x31.2 : (List Int)), Item.own v33 (x29.1.2 : (List Int)), Item.own v30 (x27.1 : (List (Int × (List Int)))), Item.own v27 (x25 : (List (Int × (List Int) × Int × Int × Int))), Item.own v26 (x23 : (List Int)), Item.box b7 [(.int .i64 x19.2.1.1.1), v25, (.int .i64 x19.2.1.2.1), (.int .i64 x19.2.1.2.2)], Item.own v25 (x19.2.1.1.2 : (List Int)), Item.own v22 (x19.1 : (List (Int × (List Int)))), Item.box b6 [(.int .i64 x18.1.1), v21, (.int .i64 x18.2.1), (.int .i64 x18.2.2)], Item.box b5 [v19, (.int .i64 x17.2)], Item.box b3 [(.int .i64 x6), v2, (.int .i64 x8), (.int .i64 x9)]] := hC64.front 17 rfl
                                have hC66 : Ctx [] w0 _ [Item.box b3 [(.int .i64 x6), v2, (.int .i64 x8), (.int .i64 x9)], Item.own v2 (x7 : (List Int)), Item.own v1 (x4 : (List (Int × (List Int)))), Item.box b2 [(.int .i64 a4.1.1), u4, (.int .i64 a4.2.1), (.int .i64 a4.2.2)], Item.box b1 [u3, (.int .i64 a3.2)], Item.own v21 (x34.2.1.2 : (List Int)), Item.own v19 (x33.2.1 : (List (Int × (List Int)))), Item.own v17 (x32.2 : (List (Int × (List Int) × Int × Int × Int))), Item.own v16 (x31.2 : (List Int)), Item.own v33 (x29.1.2 : (List Int)), Item.own v30 (x27.1 : (List (Int × (List Int)))), Item.own v27 (x25 : (List (Int × (List Int) × Int × Int × Int))), Item.own v26 (x23 : (List Int)), Item.box b7 [(.int .i64 x19.2.1.1.1), v25, (.int .i64 x19.2.1.2.1), (.int .i64 x19.2.1.2.2)], Item.own v25 (x19.2.1.1.2 : (List Int)), Item.own v22 (x19.1 : (List (Int × (List Int)))), Item.box b6 [(.int .i64 x18.1.1), v21, (.int .i64 x18.2.1), (.int .i64 x18.2.2)], Item.box b5 [v19, (.int .i64 x17.2)]] := hC65.front 17 rfl
                                have hC67 : Ctx [] w0 _ [Item.own v22 (x19.1 : (List (Int × (List Int)))), Item.box b3 [(.int .i64 x6), v2, (.int .i64 x8), (.int .i64 x9)], Item.own v2 (x7 : (List Int)), Item.own v1 (x4 : (List (Int × (List Int)))), Item.box b2 [(.int .i64 a4.1.1), u4, (.int .i64 a4.2.1), (.int .i64 a4.2.2)], Item.box b1 [u3, (.int .i64 a3.2)], Item.own v21 (x34.2.1.2 : (List Int)), Item.own v19 (x33.2.1 : (List (Int × (List Int)))), Item.own v17 (x32.2 : (List (Int × (List Int) × Int × Int × Int))), Item.own v16 (x31.2 : (List Int)), Item.own v33 (x29.1.2 : (List Int)), Item.own v30 (x27.1 : (List (Int × (List Int)))), Item.own v27 (x25 : (List (Int × (List Int) × Int × Int × Int))), Item.own v26 (x23 : (List Int)), Item.box b7 [(.int .i64 x19.2.1.1.1), v25, (.int .i64 x19.2.1.2.1), (.int .i64 x19.2.1.2.2)], Item.own v25 (x19.2.1.1.2 : (List Int)), Item.box b6 [(.int .i64 x18.1.1), v21, (.int .i64 x18.2.1), (.int .i64 x18.2.2)], Item.box b5 [v19, (.int .i64 x17.2)]] := hC66.front 15 rfl
                                have hC68 : Ctx [] w0 _ [Item.own v25 (x19.2.1.1.2 : (List Int)), Item.own v22 (x19.1 : (List (Int × (List Int)))), Item.box b3 [(.int .i64 x6), v2, (.int .i64 x8), (.int .i64 x9)], Item.own v2 (x7 : (List Int)), Item.own v1 (x4 : (List (Int × (List Int)))), Item.box b2 [(.int .i64 a4.1.1), u4, (.int .i64 a4.2.1), (.int .i64 a4.2.2)], Item.box b1 [u3, (.int .i64 a3.2)], Item.own v21 (x34.2.1.2 : (List Int)), Item.own v19 (x33.2.1 : (List (Int × (List Int)))), Item.own v17 (x32.2 : (List (Int × (List Int) × Int × Int × Int))), Item.own v16 (x31.2 : (List Int)), Item.own v33 (x29.1.2 : (List Int)), Item.own v30 (x27.1 : (List (Int × (List Int)))), Item.own v27 (x25 : (List (Int × (List Int) × Int × Int × Int))), Item.own v26 (x23 : (List Int)), Item.box b7 [(.int .i64 x19.2.1.1.1), v25, (.int .i64 x19.2.1.2.1), (.int .i64 x19.2.1.2.2)], Item.box b6 [(.int .i64 x18.1.1), v21, (.int .i64 x18.2.1), (.int .i64 x18.2.2)], Item.box b5 [v19, (.int .i64 x17.2)]] := hC67.front 15 rfl
                                have hC69 : Ctx [] w0 _ [Item.box b7 [(.int .i64 x19.2.1.1.1), v25, (.int .i64 x19.2.1.2.1), (.int .i64 x19.2.1.2.2)], Item.own v25 (x19.2.1.1.2 : (List Int)), Item.own v22 (x19.1 : (List (Int × (List Int)))), Item.box b3 [(.int .i64 x6), v2, (.int .i64 x8), (.int .i64 x9)], Item.own v2 (x7 : (List Int)), Item.own v1 (x4 : (List (Int × (List Int)))), Item.box b2 [(.int .i64 a4.1.1), u4, (.int .i64 a4.2.1), (.int .i64 a4.2.2)], Item.box b1 [u3, (.int .i64 a3.2)], Item.own v21 (x34.2.1.2 : (List Int)), Item.own v19 (x33.2.1 : (List (Int × (List Int)))), Item.own v17 (x32.2 : (List (Int × (List Int) × Int × Int × Int))), Item.own v16 (x31.2 : (List Int)), Item.own v33 (x29.1.2 : (List Int)), Item.own v30 (x27.1 : (List (Int × (List Int)))), Item.own v27 (x25 : (List (Int × (List Int) × Int × Int × Int))), Item.own v26 (x23 : (List Int)), Item.box b6 [(.int .i64 x18.1.1), v21, (.int .i64 x18.2.1), (.int .i64 x18.2.2)], Item.box b5 [v19, (.int .i64 x17.2)]] := hC68.front 15 rfl
                                have hC70 : Ctx [] w0 _ [Item.box b7 [(.int .i64 x19.2.1.1.1), v25, (.int .i64 x19.2.1.2.1), (.int .i64 x19.2.1.2.2)], Item.own v25 (x19.2.1.1.2 : (List Int)), Item.own v22 (x19.1 : (List (Int × (List Int)))), Item.box b3 [(.int .i64 x6), v2, (.int .i64 x8), (.int .i64 x9)], Item.own v2 (x7 : (List Int)), Item.own v1 (x4 : (List (Int × (List Int)))), Item.box b2 [(.int .i64 a4.1.1), u4, (.int .i64 a4.2.1), (.int .i64 a4.2.2)], Item.box b1 [u3, (.int .i64 a3.2)]] := hC69.headN 8
                                refine nrm_sub (l' := [(0, u1), (1, u2), (4, (.int .i64 a5)), (7, (ptr b1 0)), (8, (ptr b2 0)), (12, v1), (13, (ptr b3 0)), (14, (.int .i64 x5)), (19, v22), (20, (ptr b7 0)), (143, (.bool true))]) ⟨rfl, rfl, rfl, rfl, rfl, rfl, rfl, rfl, rfl, rfl, rfl, trivial⟩ ?_
                                exact ⟨true, rfl, rfl, (Below.refl _ _), hC70⟩
                              · replace hr30 := ite_f hr30 hc12
                                refine WL_guard rfl rfl ?_
                                refine WL_move rfl rfl ?_
                                refine WL_guard rfl rfl ?_
                                refine WL_move rfl rfl ?_
                                obtain ⟨x36, hr31, hr30⟩ := bind_some hr30
                                refine WL_guard rfl rfl ?_
                                refine WL_call Try.call13 rfl rfl (c_Q_eqFactS x19.1 v22 ((hC60.ro 10 rfl).now (Keep.refl _ _)) x4 v1 ((hC60.ro 15 rfl).now (Keep.refl _ _)) x36 hr31) ?_
                                intro _ w50 hv29
                                obtain ⟨rfl, hB42⟩ := res_bool hv29
                                have hC71 := hC60.grow hB42
                                refine WL_guard rfl rfl ?_
                                refine WL_not rfl rfl ?_
                                refine WL_pick_f rfl rfl rfl ?_
                                refine WL_move rfl rfl ?_
                                refine WL_fork (fun hc13 => ?_) (fun hc13 => ?_)
                                · replace hr30 := ite_t hr30 hc13
                                  refine WL_guard_skip rfl rfl (by simp) rfl ?_
                                  refine WL_guard_skip rfl rfl (by simp) rfl ?_
                                  refine WL_guard_skip rfl rfl (by simp) rfl ?_
                                  refine WL_guard_skip rfl rfl (by simp) rfl ?_
                                  refine WL_pick_t rfl rfl rfl ?_
                                  refine WL_move rfl rfl ?_
                                  refine WL_guard_skip rfl rfl (by simp) rfl ?_
                                  refine WL_guard_skip rfl rfl (by simp) rfl ?_
                                  refine WL_guard_skip rfl rfl (by simp) rfl ?_
                                  refine WL_pick_t rfl rfl rfl ?_
                                  refine WL_nil ?_
                                  have hq19 := Option.some.inj hr30
                                  subst hq19
                                  have hC72 : Ctx [] w0 _ [Item.box b1 [u3, (.int .i64 a3.2)], Item.own v21 (x34.2.1.2 : (List Int)), Item.own v19 (x33.2.1 : (List (Int × (List Int)))), Item.own v17 (x32.2 : (List (Int × (List Int) × Int × Int × Int))), Item.own v16 (x31.2 : (List Int)), Item.own v33 (x29.1.2 : (List Int)), Item.own v30 (x27.1 : (List (Int × (List Int)))), Item.own v27 (x25 : (List (Int × (List Int) × Int × Int × Int))), Item.own v26 (x23 : (List Int)), Item.box b7 [(.int .i64 x19.2.1.1.1), v25, (.int .i64 x19.2.1.2.1), (.int .i64 x19.2.1.2.2)], Item.own v25 (x19.2.1.1.2 : (List Int)), Item.own v22 (x19.1 : (List (Int × (List Int)))), Item.box b6 [(.int .i64 x18.1.1), v21, (.int .i64 x18.2.1), (.int .i64 x18.2.2)], Item.box b5 [v19, (.int .i64 x17.2)], Item.box b3 [(.int .i64 x6), v2, (.int .i64 x8), (.int .i64 x9)], Item.own v2 (x7 : (List Int)), Item.own v1 (x4 : (List (Int × (List Int)))), Item.box b2 [(.int .i64 a4.1.1), u4, (.int .i64 a4.2.1), (.int .i64 a4.2.2)]] := hC71.front 17 rfl
                                  have hC73 : Ctx [] w0 _ [Item.box b2 [(.int .i64 a4.1.1), u4, (.int .i64 a4.2.1), (.int .i64 a4.2.2)], Item.box b1 [u3, (.int .i64 a3.2)], Item.own v21 (x34.2.1.2 : (List Int)), Item.own v19 (x33.2.1 : (List (Int × (List Int)))), Item.own v17 (x32.2 : (List (Int × (List Int) × Int × Int × Int))), Item.own v16 (x31.2 : (List Int)), Item.own v33 (x29.1.2 : (List Int)), Item.own v30 (x27.1 : (List (Int × (List Int)))), Item.own v27 (x25 : (List (Int × (List Int) × Int × Int × Int))), Item.own v26 (x23 : (List Int)), Item.box b7 [(.int .i64 x19.2.1.1.1), v25, (.int .i64 x19.2.1.2.1), (.int .i64 x19.2.1.2.2)], Item.own v25 (x19.2.1.1.2 : (List Int)), Item.own v22 (x19.1 : (List (Int × (List Int)))), Item.box b6 [(.int .i64 x18.1.1), v21, (.int .i64 x18.2.1), (.int .i64 x18.2.2)], Item.box b5 [v19, (.int .i64 x17.2)], Item.box b3 [(.int .i64 x6), v2, (.int .i64 x8), (.int .i64 x9)], Item.own v2 (x7 : (List Int)), Item.own v1 (x4 : (List (Int × (List Int))))] := hC72.front 17 rfl
                                  have hC74 : Ctx [] w0 _ [Item.own v1 (x4 : (List (Int × (List Int)))), Item.box b2 [(.int .i64 a4.1.1), u4, (.int .i64 a4.2.1), (.int .i64 a4.2.2)], Item.box b1 [u3, (.int .i64 a3.2)], Item.own v21 (x34.2.1.2 : (List Int)), Item.own v19 (x33.2.1 : (List (Int × (List Int)))), Item.own v17 (x32.2 : (List (Int × (List Int) × Int × Int × Int))), Item.own v16 (x31.2 : (List Int)), Item.own v33 (x29.1.2 : (List Int)), Item.own v30 (x27.1 : (List (Int × (List Int)))), Item.own v27 (x25 : (List (Int × (List Int) × Int × Int × Int))), Item.own v26 (x23 : (List Int)), Item.box b7 [(.int .i64 x19.2.1.1.1), v25, (.int .i64 x19.2.1.2.1), (.int .i64 x19.2.1.2.2)], Item.own v25 (x19.2.1.1.2 : (List Int)), Item.own v22 (x19.1 : (List (Int × (List Int)))), Item.box b6 [(.int .i64 x18.1.1), v21, (.int .i64 x18.2.1), (.int .i64 x18.2.2)], Item.box b5 [v19, (.int .i64 x17.2)], Item.box b3 [(.int .i64 x6), v2, (.int .i64 x8), (.int .i64 x9)], Item.own v2 (x7 : (List Int))] := hC73.front 17 rfl
                                  have hC75 : Ctx [] w0 _ [Item.own v2 (x7 : (List Int)), Item.own v1 (x4 : (List (Int × (List Int)))), Item.box b2 [(.int .i64 a4.1.1), u4, (.int .i64 a4.2.1), (.int .i64 a4.2.2)], Item.box b1 [u3, (.int .i64 a3.2)], Item.own v21 (x34.2.1.2 : (List Int)), Item.own v19 (x33.2.1 : (List (Int × (List Int)))), Item.own v17 (x32.2 : (List (Int × (List Int) × Int × Int × Int))), Item.own v16 (x31.2 : (List Int)), Item.own v33 (x29.1.2 : (List Int)), Item.own v30 (x27.1 : (List (Int × (List Int)))), Item.own v27 (x25 : (List (Int × (List Int) × Int × Int × Int))), Item.own v26 (x23 : (List Int)), Item.box b7 [(.int .i64 x19.2.1.1.1), v25, (.int .i64 x19.2.1.2.1), (.int .i64 x19.2.1.2.2)], Item.own v25 (x19.2.1.1.2 : (List Int)), Item.own v22 (x19.1 : (List (Int × (List Int)))), Item.box b6 [(.int .i64 x18.1.1), v21, (.int .i64 x18.2.1), (.int .i64 x18.2.2)], Item.box b5 [v19, (.int .i64 x17.2)], Item.box b3 [(.int .i64 x6), v2, (.int .i64 x8), (.int .i64 x9)]] := hC74.front 17 rfl
                                  have hC76 : Ctx [] w0 _ [Item.box b3 [(.int .i64 x6), v2, (.int .i64 x8), (.int .i64 x9)], Item.own v2 (x7 : (List Int)), Item.own v1 (x4 : (List (Int × (List Int)))), Item.box b2 [(.int .i64 a4.1.1), u4, (.int .i64 a4.2.1), (.int .i64 a4.2.2)], Item.box b1 [u3, (.int .i64 a3.2)], Item.own v21 (x34.2.1.2 : (List Int)), Item.own v19 (x33.2.1 : (List (Int × (List Int)))), Item.own v17 (x32.2 : (List (Int × (List Int) × Int × Int × Int))), Item.own v16 (x31.2 : (List Int)), Item.own v33 (x29.1.2 : (List Int)), Item.own v30 (x27.1 : (List (Int × (List Int)))), Item.own v27 (x25 : (List (Int × (List Int) × Int × Int × Int))), Item.own v26 (x23 : (List Int)), Item.box b7 [(.int .i64 x19.2.1.1.1), v25, (.int .i64 x19.2.1.2.1), (.int .i64 x19.2.1.2.2)], Item.own v25 (x19.2.1.1.2 : (List Int)), Item.own v22 (x19.1 : (List (Int × (List Int)))), Item.box b6 [(.int .i64 x18.1.1), v21, (.int .i64 x18.2.1), (.int .i64 x18.2.2)], Item.box b5 [v19, (.int .i64 x17.2)]] := hC75.front 17 rfl
                                  have hC77 : Ctx [] w0 _ [Item.own v22 (x19.1 : (List (Int × (List Int)))), Item.box b3 [(.int .i64 x6), v2, (.int .i64 x8), (.int .i64 x9)], Item.own v2 (x7 : (List Int)), Item.own v1 (x4 : (List (Int × (List Int)))), Item.box b2 [(.int .i64 a4.1.1), u4, (.int .i64 a4.2.1), (.int .i64 a4.2.2)], Item.box b1 [u3, (.int .i64 a3.2)], Item.own v21 (x34.2.1.2 : (List Int)), Item.own v19 (x33.2.1 : (List (Int × (List Int)))), Item.own v17 (x32.2 : (List (Int × (List Int) × Int × Int × Int))), Item.own v16 (x31.2 : (List Int)), Item.own v33 (x29.1.2 : (List Int)), Item.own v30 (x27.1 : (List (Int × (List Int)))), Item.own v27 (x25 : (List (Int × (List Int) × Int × Int × Int))), Item.own v26 (x23 : (List Int)), Item.box b7 [(.int .i64 x19.2.1.1.1), v25, (.int .i64 x19.2.1.2.1), (.int .i64 x19.2.1.2.2)], Item.own v25 (x19.2.1.1.2 : (List Int)), Item.box b6 [(.int .i64 x18.1.1), v21, (.int .i64 x18.2.1), (.int .i64 x18.2.2)], Item.box b5 [v19, (.int .i64 x17.2)]] := hC76.front 15 rfl
                                  have hC78 : Ctx [] w0 _ [Item.own v25 (x19.2.1.1.2 : (List Int)), Item.own v22 (x19.1 : (List (Int × (List Int)))), Item.box b3 [(.int .i64 x6), v2, (.int .i64 x8), (.int .i64 x9)], Item.own v2 (x7 : (List Int)), Item.own v1 (x4 : (List (Int × (List Int)))), Item.box b2 [(.int .i64 a4.1.1), u4, (.int .i64 a4.2.1), (.int .i64 a4.2.2)], Item.box b1 [u3, (.int .i64 a3.2)], Item.own v21 (x34.2.1.2 : (List Int)), Item.own v19 (x33.2.1 : (List (Int × (List Int)))), Item.own v17 (x32.2 : (List (Int × (List Int) × Int × Int × Int))), Item.own v16 (x31.2 : (List Int)), Item.own v33 (x29.1.2 : (List Int)), Item.own v30 (x27.1 : (List (Int × (List Int)))), Item.own v27 (x25 : (List (Int × (List Int) × Int × Int × Int))), Item.own v26 (x23 : (List Int)), Item.box b7 [(.int .i64 x19.2.1.1.1), v25, (.int .i64 x19.2.1.2.1), (.int .i64 x19.2.1.2.2)], Item.box b6 [(.int .i64 x18.1.1), v21, (.int .i64 x18.2.1), (.int .i64 x18.2.2)], Item.box b5 [v19, (.int .i64 x17.2)]] := hC77.front 15 rfl
                                  have hC79 : Ctx [] w0 _ [Item.box b7 [(.int .i64 x19.2.1.1.1), v25, (.int .i64 x19.2.1.2.1), (.int .i64 x19.2.1.2.2)], Item.own v25 (x19.2.1.1.2 : (List Int)), Item.own v22 (x19.1 : (List (Int × (List Int)))), Item.box b3 [(.int .i64 x6), v2, (.int .i64 x8), (.int .i64 x9)], Item.own v2 (x7 : (List Int)), Item.own v1 (x4 : (List (Int × (List Int)))), Item.box b2 [(.int .i64 a4.1.1), u4, (.int .i64 a4.2.1), (.int .i64 a4.2.2)], Item.box b1 [u3, (.int .i64 a3.2)], Item.own v21 (x34.2.1.2 : (List Int)), Item.own v19 (x33.2.1 : (List (Int × (List Int)))), Item.own v17 (x32.2 : (List (Int × (List Int) × Int × Int × Int))), Item.own v16 (x31.2 : (List Int)), Item.own v33 (x29.1.2 : (List Int)), Item.own v30 (x27.1 : (List (Int × (List Int)))), Item.own v27 (x25 : (List (Int × (List Int) × Int × Int × Int))), Item.own v26 (x23 : (List Int)), Item.box b6 [(.int .i64 x18.1.1), v21, (.int .i64 x18.2.1), (.int .i64 x18.2.2)], Item.box b5 [v19, (.int .i64 x17.2)]] := hC78.front 15 rfl
                                  have hC80 : Ctx [] w0 _ [Item.box b7 [(.int .i64 x19.2.1.1.1), v25, (.int .i64 x19.2.1.2.1), (.int .i64 x19.2.1.2.2)], Item.own v25 (x19.2.1.1.2 : (List Int)), Item.own v22 (x19.1 : (List (Int × (List Int)))), Item.box b3 [(.int .i64 x6), v2, (.int .i64 x8), (.int .i64 x9)], Item.own v2 (x7 : (List Int)), Item.own v1 (x4 : (List (Int × (List Int)))), Item.box b2 [(.int .i64 a4.1.1), u4, (.int .i64 a4.2.1), (.int .i64 a4.2.2)], Item.box b1 [u3, (.int .i64 a3.2)]] := hC79.headN 8
                                  refine nrm_sub (l' := [(0, u1), (1, u2), (4, (.int .i64 a5)), (7, (ptr b1 0)), (8, (ptr b2 0)), (12, v1), (13, (ptr b3 0)), (14, (.int .i64 x5)), (19, v22), (20, (ptr b7 0)), (143, (.bool true))]) ⟨rfl, rfl, rfl, rfl, rfl, rfl, rfl, rfl, rfl, rfl, rfl, trivial⟩ ?_
                                  exact ⟨true, rfl, rfl, (Keep.of hB42).below, hC80⟩
                                · replace hr30 := ite_f hr30 hc13
                                  refine WL_guard rfl rfl ?_
                                  refine WL_load_box_agg [(.int .i64 x19.2.1.1.1), v25, (.int .i64 x19.2.1.2.1), (.int .i64 x19.2.1.2.2)] hC71 8 rfl rfl rfl Try.isAgg37 Try.sizeOf37 rfl rfl ?_
                                  refine WL_guard rfl rfl ?_
                                  refine WL_load_box_agg [(.int .i64 x6), v2, (.int .i64 x8), (.int .i64 x9)] hC71 13 rfl rfl rfl Try.isAgg37 Try.sizeOf37 rfl rfl ?_
                                  obtain ⟨x37, hr32, hr30⟩ := bind_some hr30
                                  refine WL_guard rfl rfl ?_
                                  refine WL_call Try.call14 rfl rfl (c_Q_eqCursor ((x19.2.1.1.1, x19.2.1.1.2), x19.2.1.2.1, x19.2.1.2.2) v25 ((hC71.ro 9 rfl).now (Keep.refl _ _)) ((x6, x7), x8, x9) v2 ((hC71.ro 14 rfl).now (Keep.refl _ _)) x37 hr32) ?_
                                  intro _ w51 hv30
                                  obtain ⟨rfl, hB43⟩ := res_bool hv30
                                  have hC81 := hC71.grow hB43
                                  refine WL_guard rfl rfl ?_
                                  refine WL_not rfl rfl ?_
                                  refine WL_pick_f rfl rfl rfl ?_
                                  refine WL_move rfl rfl ?_
                                  refine WL_fork (fun hc14 => ?_) (fun hc14 => ?_)
                                  · replace hr30 := ite_t hr30 hc14
                                    refine WL_guard_skip rfl rfl (by simp) rfl ?_
                                    refine WL_guard_skip rfl rfl (by simp) rfl ?_
                                    refine WL_guard_skip rfl rfl (by simp) rfl ?_
                                    refine WL_pick_t rfl rfl rfl ?_
                                    refine WL_nil ?_
                                    have hq20 := Option.some.inj hr30
                                    subst hq20
                                    have hC82 : Ctx [] w0 _ [Item.box b1 [u3, (.int .i64 a3.2)], Item.own v21 (x34.2.1.2 : (List Int)), Item.own v19 (x33.2.1 : (List (Int × (List Int)))), Item.own v17 (x32.2 : (List (Int × (List Int) × Int × Int × Int))), Item.own v16 (x31.2 : (List Int)), Item.own v33 (x29.1.2 : (List Int)), Item.own v30 (x27.1 : (List (Int × (List Int)))), Item.own v27 (x25 : (List (Int × (List Int) × Int × Int × Int))), Item.own v26 (x23 : (List Int)), Item.box b7 [(.int .i64 x19.2.1.1.1), v25, (.int .i64 x19.2.1.2.1), (.int .i64 x19.2.1.2.2)], Item.own v25 (x19.2.1.1.2 : (List Int)), Item.own v22 (x19.1 : (List (Int × (List Int)))), Item.box b6 [(.int .i64 x18.1.1), v21, (.int .i64 x18.2.1), (.int .i64 x18.2.2)], Item.box b5 [v19, (.int .i64 x17.2)], Item.box b3 [(.int .i64 x6), v2, (.int .i64 x8), (.int .i64 x9)], Item.own v2 (x7 : (List Int)), Item.own v1 (x4 : (List (Int × (List Int)))), Item.box b2 [(.int .i64 a4.1.1), u4, (.int .i64 a4.2.1), (.int .i64 a4.2.2)]] := hC81.front 17 rfl
                                    have hC83 : Ctx [] w0 _ [Item.box b2 [(.int .i64 a4.1.1), u4, (.int .i64 a4.2.1), (.int .i64 a4.2.2)], Item.box b1 [u3, (.int .i64 a3.2)], Item.own v21 (x34.2.1.2 : (List Int)), Item.own v19 (x33.2.1 : (List (Int × (List Int)))), Item.own v17 (x32.2 : (List (Int × (List Int) × Int × Int × Int))), Item.own v16 (x31.2 : (List Int)), Item.own v33 (x29.1.2 : (List Int)), Item.own v30 (x27.1 : (List (Int × (List Int)))), Item.own v27 (x25 : (List (Int × (List Int) × Int × Int × Int))), Item.own v26 (x23 : (List Int)), Item.box b7 [(.int .i64 x19.2.1.1.1), v25, (.int .i64 x19.2.1.2.1), (.int .i64 x19.2.1.2.2)], Item.own v25 (x19.2.1.1.2 : (List Int)), Item.own v22 (x19.1 : (List (Int × (List Int)))), Item.box b6 [(.int .i64 x18.1.1), v21, (.int .i64 x18.2.1), (.int .i64 x18.2.2)], Item.box b5 [v19, (.int .i64 x17.2)], Item.box b3 [(.int .i64 x6), v2, (.int .i64 x8), (.int .i64 x9)], Item.own v2 (x7 : (List Int)), Item.own v1 (x4 : (List (Int × (List Int))))] := hC82.front 17 rfl
                                    have hC84 : Ctx [] w0 _ [Item.own v1 (x4 : (List (Int × (List Int)))), Item.box b2 [(.int .i64 a4.1.1), u4, (.int .i64 a4.2.1), (.int .i64 a4.2.2)], Item.box b1 [u3, (.int .i64 a3.2)], Item.own v21 (x34.2.1.2 : (List Int)), Item.own v19 (x33.2.1 : (List (Int × (List Int)))), Item.own v17 (x32.2 : (List (Int × (List Int) × Int × Int × Int))), Item.own v16 (x31.2 : (List Int)), Item.own v33 (x29.1.2 : (List Int)), Item.own v30 (x27.1 : (List (Int × (List Int)))), Item.own v27 (x25 : (List (Int × (List Int) × Int × Int × Int))), Item.own v26 (x23 : (List Int)), Item.box b7 [(.int .i64 x19.2.1.1.1), v25, (.int .i64 x19.2.1.2.1), (.int .i64 x19.2.1.2.2)], Item.own v25 (x19.2.1.1.2 : (List Int)), Item.own v22 (x19.1 : (List (Int × (List Int)))), Item.box b6 [(.int .i64 x18.1.1), v21, (.int .i64 x18.2.1), (.int .i64 x18.2.2)], Item.box b5 [v19, (.int .i64 x17.2)], Item.box b3 [(.int .i64 x6), v2, (.int .i64 x8), (.int .i64 x9)], Item.own v2 (x7 : (List Int))] := hC83.front 17 rfl
                                    have hC85 : Ctx [] w0 _ [Item.own v2 (x7 : (List Int)), Item.own v1 (x4 : (List (Int × (List Int)))), Item.box b2 [(.int .i64 a4.1.1), u4, (.int .i64 a4.2.1), (.int .i64 a4.2.2)], Item.box b1 [u3, (.int .i64 a3.2)], Item.own v21 (x34.2.1.2 : (List Int)), Item.own v19 (x33.2.1 : (List (Int × (List Int)))), Item.own v17 (x32.2 : (List (Int × (List Int) × Int × Int × Int))), Item.own v16 (x31.2 : (List Int)), Item.own v33 (x29.1.2 : (List Int)), Item.own v30 (x27.1 : (List (Int × (List Int)))), Item.own v27 (x25 : (List (Int × (List Int) × Int × Int × Int))), Item.own v26 (x23 : (List Int)), Item.box b7 [(.int .i64 x19.2.1.1.1), v25, (.int .i64 x19.2.1.2.1), (.int .i64 x19.2.1.2.2)], Item.own v25 (x19.2.1.1.2 : (List Int)), Item.own v22 (x19.1 : (List (Int × (List Int)))), Item.box b6 [(.int .i64 x18.1.1), v21, (.int .i64 x18.2.1), (.int .i64 x18.2.2)], Item.box b5 [v19, (.int .i64 x17.2)], Item.box b3 [(.int .i64 x6), v2, (.int .i64 x8), (.int .i64 x9)]] := hC84.front 17 rfl
                                    have hC86 : Ctx [] w0 _ [Item.box b3 [(.int .i64 x6), v2, (.int .i64 x8), (.int .i64 x9)], Item.own v2 (x7 : (List Int)), Item.own v1 (x4 : (List (Int × (List Int)))), Item.box b2 [(.int .i64 a4.1.1), u4, (.int .i64 a4.2.1), (.int .i64 a4.2.2)], Item.box b1 [u3, (.int .i64 a3.2)], Item.own v21 (x34.2.1.2 : (List Int)), Item.own v19 (x33.2.1 : (List (Int × (List Int)))), Item.own v17 (x32.2 : (List (Int × (List Int) × Int × Int × Int))), Item.own v16 (x31.2 : (List Int)), Item.own v33 (x29.1.2 : (List Int)), Item.own v30 (x27.1 : (List (Int × (List Int)))), Item.own v27 (x25 : (List (Int × (List Int) × Int × Int × Int))), Item.own v26 (x23 : (List Int)), Item.box b7 [(.int .i64 x19.2.1.1.1), v25, (.int .i64 x19.2.1.2.1), (.int .i64 x19.2.1.2.2)], Item.own v25 (x19.2.1.1.2 : (List Int)), Item.own v22 (x19.1 : (List (Int × (List Int)))), Item.box b6 [(.int .i64 x18.1.1), v21, (.int .i64 x18.2.1), (.int .i64 x18.2.2)], Item.box b5 [v19, (.int .i64 x17.2)]] := hC85.front 17 rfl
                                    have hC87 : Ctx [] w0 _ [Item.own v22 (x19.1 : (List (Int × (List Int)))), Item.box b3 [(.int .i64 x6), v2, (.int .i64 x8), (.int .i64 x9)], Item.own v2 (x7 : (List Int)), Item.own v1 (x4 : (List (Int × (List Int)))), Item.box b2 [(.int .i64 a4.1.1), u4, (.int .i64 a4.2.1), (.int .i64 a4.2.2)], Item.box b1 [u3, (.int .i64 a3.2)], Item.own v21 (x34.2.1.2 : (List Int)), Item.own v19 (x33.2.1 : (List (Int × (List Int)))), Item.own v17 (x32.2 : (List (Int × (List Int) × Int × Int × Int))), Item.own v16 (x31.2 : (List Int)), Item.own v33 (x29.1.2 : (List Int)), Item.own v30 (x27.1 : (List (Int × (List Int)))), Item.own v27 (x25 : (List (Int × (List Int) × Int × Int × Int))), Item.own v26 (x23 : (List Int)), Item.box b7 [(.int .i64 x19.2.1.1.1), v25, (.int .i64 x19.2.1.2.1), (.int .i64 x19.2.1.2.2)], Item.own v25 (x19.2.1.1.2 : (List Int)), Item.box b6 [(.int .i64 x18.1.1), v21, (.int .i64 x18.2.1), (.int .i64 x18.2.2)], Item.box b5 [v19, (.int .i64 x17.2)]] := hC86.front 15 rfl
                                    have hC88 : Ctx [] w0 _ [Item.own v25 (x19.2.1.1.2 : (List Int)), Item.own v22 (x19.1 : (List (Int × (List Int)))), Item.box b3 [(.int .i64 x6), v2, (.int .i64 x8), (.int .i64 x9)], Item.own v2 (x7 : (List Int)), Item.own v1 (x4 : (List (Int × (List Int)))), Item.box b2 [(.int .i64 a4.1.1), u4, (.int .i64 a4.2.1), (.int .i64 a4.2.2)], Item.box b1 [u3, (.int .i64 a3.2)], Item.own v21 (x34.2.1.2 : (List Int)), Item.own v19 (x33.2.1 : (List (Int × (List Int)))), Item.own v17 (x32.2 : (List (Int × (List Int) × Int × Int × Int))), Item.own v16 (x31.2 : (List Int)), Item.own v33 (x29.1.2 : (List Int)), Item.own v30 (x27.1 : (List (Int × (List Int)))), Item.own v27 (x25 : (List (Int × (List Int) × Int × Int × Int))), Item.own v26 (x23 : (List Int)), Item.box b7 [(.int .i64 x19.2.1.1.1), v25, (.int .i64 x19.2.1.2.1), (.int .i64 x19.2.1.2.2)], Item.box b6 [(.int .i64 x18.1.1), v21, (.int .i64 x18.2.1), (.int .i64 x18.2.2)], Item.box b5 [v19, (.int .i64 x17.2)]] := hC87.front 15 rfl
                                    have hC89 : Ctx [] w0 _ [Item.box b7 [(.int .i64 x19.2.1.1.1), v25, (.int .i64 x19.2.1.2.1), (.int .i64 x19.2.1.2.2)], Item.own v25 (x19.2.1.1.2 : (List Int)), Item.own v22 (x19.1 : (List (Int × (List Int)))), Item.box b3 [(.int .i64 x6), v2, (.int .i64 x8), (.int .i64 x9)], Item.own v2 (x7 : (List Int)), Item.own v1 (x4 : (List (Int × (List Int)))), Item.box b2 [(.int .i64 a4.1.1), u4, (.int .i64 a4.2.1), (.int .i64 a4.2.2)], Item.box b1 [u3, (.int .i64 a3.2)], Item.own v21 (x34.2.1.2 : (List Int)), Item.own v19 (x33.2.1 : (List (Int × (List Int)))), Item.own v17 (x32.2 : (List (Int × (List Int) × Int × Int × Int))), Item.own v16 (x31.2 : (List Int)), Item.own v33 (x29.1.2 : (List Int)), Item.own v30 (x27.1 : (List (Int × (List Int)))), Item.own v27 (x25 : (List (Int × (List Int) × Int × Int × Int))), Item.own v26 (x23 : (List Int)), Item.box b6 [(.int .i64 x18.1.1), v21, (.int .i64 x18.2.1), (.int .i64 x18.2.2)], Item.box b5 [v19, (.int .i64 x17.2)]] := hC88.front 15 rfl
                                    have hC90 : Ctx [] w0 _ [Item.box b7 [(.int .i64 x19.2.1.1.1), v25, (.int .i64 x19.2.1.2.1), (.int .i64 x19.2.1.2.2)], Item.own v25 (x19.2.1.1.2 : (List Int)), Item.own v22 (x19.1 : (List (Int × (List Int)))), Item.box b3 [(.int .i64 x6), v2, (.int .i64 x8), (.int .i64 x9)], Item.own v2 (x7 : (List Int)), Item.own v1 (x4 : (List (Int × (List Int)))), Item.box b2 [(.int .i64 a4.1.1), u4, (.int .i64 a4.2.1), (.int .i64 a4.2.2)], Item.box b1 [u3, (.int .i64 a3.2)]] := hC89.headN 8
                                    refine nrm_sub (l' := [(0, u1), (1, u2), (4, (.int .i64 a5)), (7, (ptr b1 0)), (8, (ptr b2 0)), (12, v1), (13, (ptr b3 0)), (14, (.int .i64 x5)), (19, v22), (20, (ptr b7 0)), (143, (.bool true))]) ⟨rfl, rfl, rfl, rfl, rfl, rfl, rfl, rfl, rfl, rfl, rfl, trivial⟩ ?_
                                    exact ⟨true, rfl, rfl, ((Keep.of hB42).then hB43).below, hC90⟩
                                  · replace hr30 := ite_f hr30 hc14
                                    refine WL_guard rfl rfl ?_
                                    refine WL_move rfl rfl ?_
                                    refine WL_guard rfl rfl ?_
                                    refine WL_move rfl rfl ?_
                                    refine WL_guard rfl rfl ?_
                                    refine WL_neq rfl rfl rfl ?_
                                    refine WL_pick_f rfl rfl rfl ?_
                                    refine WL_nil ?_
                                    have hq21 := Option.some.inj hr30
                                    subst hq21
                                    have hC91 : Ctx [] w0 _ [Item.box b1 [u3, (.int .i64 a3.2)], Item.own v21 (x34.2.1.2 : (List Int)), Item.own v19 (x33.2.1 : (List (Int × (List Int)))), Item.own v17 (x32.2 : (List (Int × (List Int) × Int × Int × Int))), Item.own v16 (x31.2 : (List Int)), Item.own v33 (x29.1.2 : (List Int)), Item.own v30 (x27.1 : (List (Int × (List Int)))), Item.own v27 (x25 : (List (Int × (List Int) × Int × Int × Int))), Item.own v26 (x23 : (List Int)), Item.box b7 [(.int .i64 x19.2.1.1.1), v25, (.int .i64 x19.2.1.2.1), (.int .i64 x19.2.1.2.2)], Item.own v25 (x19.2.1.1.2 : (List Int)), Item.own v22 (x19.1 : (List (Int × (List Int)))), Item.box b6 [(.int .i64 x18.1.1), v21, (.int .i64 x18.2.1), (.int .i64 x18.2.2)], Item.box b5 [v19, (.int .i64 x17.2)], Item.box b3 [(.int .i64 x6), v2, (.int .i64 x8), (.int .i64 x9)], Item.own v2 (x7 : (List Int)), Item.own v1 (x4 : (List (Int × (List Int)))), Item.box b2 [(.int .i64 a4.1.1), u4, (.int .i64 a4.2.1), (.int .i64 a4.2.2)]] := hC81.front 17 rfl
                                    have hC92 : Ctx [] w0 _ [Item.box b2 [(.int .i64 a4.1.1), u4, (.int .i64 a4.2.1), (.int .i64 a4.2.2)], Item.box b1 [u3, (.int .i64 a3.2)], Item.own v21 (x34.2.1.2 : (List Int)), Item.own v19 (x33.2.1 : (List (Int × (List Int)))), Item.own v17 (x32.2 : (List (Int × (List Int) × Int × Int × Int))), Item.own v16 (x31.2 : (List Int)), Item.own v33 (x29.1.2 : (List Int)), Item.own v30 (x27.1 : (List (Int × (List Int)))), Item.own v27 (x25 : (List (Int × (List Int) × Int × Int × Int))), Item.own v26 (x23 : (List Int)), Item.box b7 [(.int .i64 x19.2.1.1.1), v25, (.int .i64 x19.2.1.2.1), (.int .i64 x19.2.1.2.2)], Item.own v25 (x19.2.1.1.2 : (List Int)), Item.own v22 (x19.1 : (List (Int × (List Int)))), Item.box b6 [(.int .i64 x18.1.1), v21, (.int .i64 x18.2.1), (.int .i64 x18.2.2)], Item.box b5 [v19, (.int .i64 x17.2)], Item.box b3 [(.int .i64 x6), v2, (.int .i64 x8), (.int .i64 x9)], Item.own v2 (x7 : (List Int)), Item.own v1 (x4 : (List (Int × (List Int))))] := hC91.front 17 rfl
                                    have hC93 : Ctx [] w0 _ [Item.own v1 (x4 : (List (Int × (List Int)))), Item.box b2 [(.int .i64 a4.1.1), u4, (.int .i64 a4.2.1), (.int .i64 a4.2.2)], Item.box b1 [u3, (.int .i64 a3.2)], Item.own v21 (x34.2.1.2 : (List Int)), Item.own v19 (x33.2.1 : (List (Int × (List Int)))), Item.own v17 (x32.2 : (List (Int × (List Int) × Int × Int × Int))), Item.own v16 (x31.2 : (List Int)), Item.own v33 (x29.1.2 : (List Int)), Item.own v30 (x27.1 : (List (Int × (List Int)))), Item.own v27 (x25 : (List (Int × (List Int) × Int × Int × Int))), Item.own v26 (x23 : (List Int)), Item.box b7 [(.int .i64 x19.2.1.1.1), v25, (.int .i64 x19.2.1.2.1), (.int .i64 x19.2.1.2.2)], Item.own v25 (x19.2.1.1.2 : (List Int)), Item.own v22 (x19.1 : (List (Int × (List Int)))), Item.box b6 [(.int .i64 x18.1.1), v21, (.int .i64 x18.2.1), (.int .i64 x18.2.2)], Item.box b5 [v19, (.int .i64 x17.2)], Item.box b3 [(.int .i64 x6), v2, (.int .i64 x8), (.int .i64 x9)], Item.own v2 (x7 : (List Int))] := hC92.front 17 rfl
                                    have hC94 : Ctx [] w0 _ [Item.own v2 (x7 : (List Int)), Item.own v1 (x4 : (List (Int × (List Int)))), Item.box b2 [(.int .i64 a4.1.1), u4, (.int .i64 a4.2.1), (.int .i64 a4.2.2)], Item.box b1 [u3, (.int .i64 a3.2)], Item.own v21 (x34.2.1.2 : (List Int)), Item.own v19 (x33.2.1 : (List (Int × (List Int)))), Item.own v17 (x32.2 : (List (Int × (List Int) × Int × Int × Int))), Item.own v16 (x31.2 : (List Int)), Item.own v33 (x29.1.2 : (List Int)), Item.own v30 (x27.1 : (List (Int × (List Int)))), Item.own v27 (x25 : (List (Int × (List Int) × Int × Int × Int))), Item.own v26 (x23 : (List Int)), Item.box b7 [(.int .i64 x19.2.1.1.1), v25, (.int .i64 x19.2.1.2.1), (.int .i64 x19.2.1.2.2)], Item.own v25 (x19.2.1.1.2 : (List Int)), Item.own v22 (x19.1 : (List (Int × (List Int)))), Item.box b6 [(.int .i64 x18.1.1), v21, (.int .i64 x18.2.1), (.int .i64 x18.2.2)], Item.box b5 [v19, (.int .i64 x17.2)], Item.box b3 [(.int .i64 x6), v2, (.int .i64 x8), (.int .i64 x9)]] := hC93.front 17 rfl
                                    have hC95 : Ctx [] w0 _ [Item.box b3 [(.int .i64 x6), v2, (.int .i64 x8), (.int .i64 x9)], Item.own v2 (x7 : (List Int)), Item.own v1 (x4 : (List (Int × (List Int)))), Item.box b2 [(.int .i64 a4.1.1), u4, (.int .i64 a4.2.1), (.int .i64 a4.2.2)], Item.box b1 [u3, (.int .i64 a3.2)], Item.own v21 (x34.2.1.2 : (List Int)), Item.own v19 (x33.2.1 : (List (Int × (List Int)))), Item.own v17 (x32.2 : (List (Int × (List Int) × Int × Int × Int))), Item.own v16 (x31.2 : (List Int)), Item.own v33 (x29.1.2 : (List Int)), Item.own v30 (x27.1 : (List (Int × (List Int)))), Item.own v27 (x25 : (List (Int × (List Int) × Int × Int × Int))), Item.own v26 (x23 : (List Int)), Item.box b7 [(.int .i64 x19.2.1.1.1), v25, (.int .i64 x19.2.1.2.1), (.int .i64 x19.2.1.2.2)], Item.own v25 (x19.2.1.1.2 : (List Int)), Item.own v22 (x19.1 : (List (Int × (List Int)))), Item.box b6 [(.int .i64 x18.1.1), v21, (.int .i64 x18.2.1), (.int .i64 x18.2.2)], Item.box b5 [v19, (.int .i64 x17.2)]] := hC94.front 17 rfl
                                    have hC96 : Ctx [] w0 _ [Item.own v22 (x19.1 : (List (Int × (List Int)))), Item.box b3 [(.int .i64 x6), v2, (.int .i64 x8), (.int .i64 x9)], Item.own v2 (x7 : (List Int)), Item.own v1 (x4 : (List (Int × (List Int)))), Item.box b2 [(.int .i64 a4.1.1), u4, (.int .i64 a4.2.1), (.int .i64 a4.2.2)], Item.box b1 [u3, (.int .i64 a3.2)], Item.own v21 (x34.2.1.2 : (List Int)), Item.own v19 (x33.2.1 : (List (Int × (List Int)))), Item.own v17 (x32.2 : (List (Int × (List Int) × Int × Int × Int))), Item.own v16 (x31.2 : (List Int)), Item.own v33 (x29.1.2 : (List Int)), Item.own v30 (x27.1 : (List (Int × (List Int)))), Item.own v27 (x25 : (List (Int × (List Int) × Int × Int × Int))), Item.own v26 (x23 : (List Int)), Item.box b7 [(.int .i64 x19.2.1.1.1), v25, (.int .i64 x19.2.1.2.1), (.int .i64 x19.2.1.2.2)], Item.own v25 (x19.2.1.1.2 : (List Int)), Item.box b6 [(.int .i64 x18.1.1), v21, (.int .i64 x18.2.1), (.int .i64 x18.2.2)], Item.box b5 [v19, (.int .i64 x17.2)]] := hC95.front 15 rfl
                                    have hC97 : Ctx [] w0 _ [Item.own v25 (x19.2.1.1.2 : (List Int)), Item.own v22 (x19.1 : (List (Int × (List Int)))), Item.box b3 [(.int .i64 x6), v2, (.int .i64 x8), (.int .i64 x9)], Item.own v2 (x7 : (List Int)), Item.own v1 (x4 : (List (Int × (List Int)))), Item.box b2 [(.int .i64 a4.1.1), u4, (.int .i64 a4.2.1), (.int .i64 a4.2.2)], Item.box b1 [u3, (.int .i64 a3.2)], Item.own v21 (x34.2.1.2 : (List Int)), Item.own v19 (x33.2.1 : (List (Int × (List Int)))), Item.own v17 (x32.2 : (List (Int × (List Int) × Int × Int × Int))), Item.own v16 (x31.2 : (List Int)), Item.own v33 (x29.1.2 : (List Int)), Item.own v30 (x27.1 : (List (Int × (List Int)))), Item.own v27 (x25 : (List (Int × (List Int) × Int × Int × Int))), Item.own v26 (x23 : (List Int)), Item.box b7 [(.int .i64 x19.2.1.1.1), v25, (.int .i64 x19.2.1.2.1), (.int .i64 x19.2.1.2.2)], Item.box b6 [(.int .i64 x18.1.1), v21, (.int .i64 x18.2.1), (.int .i64 x18.2.2)], Item.box b5 [v19, (.int .i64 x17.2)]] := hC96.front 15 rfl
                                    have hC98 : Ctx [] w0 _ [Item.box b7 [(.int .i64 x19.2.1.1.1), v25, (.int .i64 x19.2.1.2.1), (.int .i64 x19.2.1.2.2)], Item.own v25 (x19.2.1.1.2 : (List Int)), Item.own v22 (x19.1 : (List (Int × (List Int)))), Item.box b3 [(.int .i64 x6), v2, (.int .i64 x8), (.int .i64 x9)], Item.own v2 (x7 : (List Int)), Item.own v1 (x4 : (List (Int × (List Int)))), Item.box b2 [(.int .i64 a4.1.1), u4, (.int .i64 a4.2.1), (.int .i64 a4.2.2)], Item.box b1 [u3, (.int .i64 a3.2)], Item.own v21 (x34.2.1.2 : (List Int)), Item.own v19 (x33.2.1 : (List (Int × (List Int)))), Item.own v17 (x32.2 : (List (Int × (List Int) × Int × Int × Int))), Item.own v16 (x31.2 : (List Int)), Item.own v33 (x29.1.2 : (List Int)), Item.own v30 (x27.1 : (List (Int × (List Int)))), Item.own v27 (x25 : (List (Int × (List Int) × Int × Int × Int))), Item.own v26 (x23 : (List Int)), Item.box b6 [(.int .i64 x18.1.1), v21, (.int .i64 x18.2.1), (.int .i64 x18.2.2)], Item.box b5 [v19, (.int .i64 x17.2)]] := hC97.front 15 rfl
                                    have hC99 : Ctx [] w0 _ [Item.box b7 [(.int .i64 x19.2.1.1.1), v25, (.int .i64 x19.2.1.2.1), (.int .i64 x19.2.1.2.2)], Item.own v25 (x19.2.1.1.2 : (List Int)), Item.own v22 (x19.1 : (List (Int × (List Int)))), Item.box b3 [(.int .i64 x6), v2, (.int .i64 x8), (.int .i64 x9)], Item.own v2 (x7 : (List Int)), Item.own v1 (x4 : (List (Int × (List Int)))), Item.box b2 [(.int .i64 a4.1.1), u4, (.int .i64 a4.2.1), (.int .i64 a4.2.2)], Item.box b1 [u3, (.int .i64 a3.2)]] := hC98.headN 8
                                    refine nrm_sub (l' := [(0, u1), (1, u2), (4, (.int .i64 a5)), (7, (ptr b1 0)), (8, (ptr b2 0)), (12, v1), (13, (ptr b3 0)), (14, (.int .i64 x5)), (19, v22), (20, (ptr b7 0)), (143, (.bool (!decide (x19.2.2 = x5))))]) ⟨rfl, rfl, rfl, rfl, rfl, rfl, rfl, rfl, rfl, rfl, rfl, trivial⟩ ?_
                                    exact ⟨(!decide (x19.2.2 = x5)), rfl, rfl, ((Keep.of hB42).then hB43).below, hC99⟩
                            · rintro _ w49 ⟨x35, rfl, rfl, hB41, hC61⟩
                              try dsimp only at hF
                              refine W_cond rfl (fun hc15 => ?_) (fun hc15 => ?_)
                              · replace hF := ite_t hF hc15
                                refine W_seq_reg ?_
                                refine WL_assign rfl rfl ?_
                                refine WL_nil ?_
                                refine W_ret ?_
                                refine nrm_ret ?_
                                have hq22 := Option.some.inj hF
                                subst hq22
                                refine fn_ret1 rfl rfl ?_
                                exact ⟨_, rfl, bool_res hC61 _⟩
                              · replace hF := ite_f hF hc15
                                refine W_skip ?_
                                refine nrm_normal ?_
                                refine W_seq_reg ?_
                                refine WL_assign rfl rfl ?_
                                refine WL_nil ?_
                                refine W_seq_reg ?_
                                refine WL_move rfl rfl ?_
                                refine WL_move rfl rfl ?_
                                obtain ⟨x38, hr33, hF⟩ := bind_some hF
                                have hC100 : Ctx [] w0 _ [Item.own v22 (x19.1 : (List (Int × (List Int)))), Item.box b7 [(.int .i64 x19.2.1.1.1), v25, (.int .i64 x19.2.1.2.1), (.int .i64 x19.2.1.2.2)], Item.own v25 (x19.2.1.1.2 : (List Int)), Item.box b3 [(.int .i64 x6), v2, (.int .i64 x8), (.int .i64 x9)], Item.own v2 (x7 : (List Int)), Item.own v1 (x4 : (List (Int × (List Int)))), Item.box b2 [(.int .i64 a4.1.1), u4, (.int .i64 a4.2.1), (.int .i64 a4.2.2)], Item.box b1 [u3, (.int .i64 a3.2)]] := hC61.front 2 rfl
                                obtain ⟨Fs5, hH5, hn22, hF5, hO5, hb22⟩ := Ctx.lend2 (As := [Item.box b7 [(.int .i64 x19.2.1.1.1), v25, (.int .i64 x19.2.1.2.1), (.int .i64 x19.2.1.2.2)], Item.own v25 (x19.2.1.1.2 : (List Int)), Item.box b3 [(.int .i64 x6), v2, (.int .i64 x8), (.int .i64 x9)], Item.own v2 (x7 : (List Int)), Item.own v1 (x4 : (List (Int × (List Int)))), Item.box b2 [(.int .i64 a4.1.1), u4, (.int .i64 a4.2.1), (.int .i64 a4.2.2)], Item.box b1 [u3, (.int .i64 a3.2)]]) [Item.own v22 (x19.1 : (List (Int × (List Int))))] hC100
                                refine WL_call Try.call22 rfl rfl (c_Q_markFactS x19.1 v22 1 hH5 hn22 x38 hr33) ?_
                                rintro _ w52 ⟨rfl, hq23⟩
                                have hC101 : Ctx [] w0 w52 [Item.own v22 (x38.2 : (List (Int × (List Int)))), Item.box b7 [(.int .i64 x19.2.1.1.1), v25, (.int .i64 x19.2.1.2.1), (.int .i64 x19.2.1.2.2)], Item.own v25 (x19.2.1.1.2 : (List Int)), Item.box b3 [(.int .i64 x6), v2, (.int .i64 x8), (.int .i64 x9)], Item.own v2 (x7 : (List Int)), Item.own v1 (x4 : (List (Int × (List Int)))), Item.box b2 [(.int .i64 a4.1.1), u4, (.int .i64 a4.2.1), (.int .i64 a4.2.2)], Item.box b1 [u3, (.int .i64 a3.2)]] := hb22 _ _ hq23
                                refine WL_assign rfl rfl ?_
                                refine WL_nil ?_
                                refine W_seq_reg ?_
                                refine WL_load_box_agg [(.int .i64 x19.2.1.1.1), v25, (.int .i64 x19.2.1.2.1), (.int .i64 x19.2.1.2.2)] hC101 1 rfl rfl rfl Try.isAgg37 Try.sizeOf37 rfl rfl ?_
                                refine WL_move rfl rfl ?_
                                obtain ⟨x39, hr34, hF⟩ := bind_some hF
                                have hC102 : Ctx [] w0 _ [Item.own v25 (x19.2.1.1.2 : (List Int)), Item.own v22 (x38.2 : (List (Int × (List Int)))), Item.box b7 [(.int .i64 x19.2.1.1.1), v25, (.int .i64 x19.2.1.2.1), (.int .i64 x19.2.1.2.2)], Item.box b3 [(.int .i64 x6), v2, (.int .i64 x8), (.int .i64 x9)], Item.own v2 (x7 : (List Int)), Item.own v1 (x4 : (List (Int × (List Int)))), Item.box b2 [(.int .i64 a4.1.1), u4, (.int .i64 a4.2.1), (.int .i64 a4.2.2)], Item.box b1 [u3, (.int .i64 a3.2)]] := hC101.front 2 rfl
                                obtain ⟨Fs6, hH6, hn23, hF6, hO6, hb23⟩ := Ctx.lend2 (As := [Item.own v22 (x38.2 : (List (Int × (List Int)))), Item.box b7 [(.int .i64 x19.2.1.1.1), v25, (.int .i64 x19.2.1.2.1), (.int .i64 x19.2.1.2.2)], Item.box b3 [(.int .i64 x6), v2, (.int .i64 x8), (.int .i64 x9)], Item.own v2 (x7 : (List Int)), Item.own v1 (x4 : (List (Int × (List Int)))), Item.box b2 [(.int .i64 a4.1.1), u4, (.int .i64 a4.2.1), (.int .i64 a4.2.2)], Item.box b1 [u3, (.int .i64 a3.2)]]) [Item.own v25 (x19.2.1.1.2 : (List Int))] hC102
                                refine WL_call Try.call21 rfl rfl (c_Q_markCursor ((x19.2.1.1.1, x19.2.1.1.2), x19.2.1.2.1, x19.2.1.2.2) v25 x38.1 hH6 hn23 x39 hr34) ?_
                                rintro _ w53 ⟨rfl, hq24⟩
                                have hC103 : Ctx [] w0 w53 [Item.own v25 (x39.2.1.2 : (List Int)), Item.own v22 (x38.2 : (List (Int × (List Int)))), Item.box b7 [(.int .i64 x19.2.1.1.1), v25, (.int .i64 x19.2.1.2.1), (.int .i64 x19.2.1.2.2)], Item.box b3 [(.int .i64 x6), v2, (.int .i64 x8), (.int .i64 x9)], Item.own v2 (x7 : (List Int)), Item.own v1 (x4 : (List (Int × (List Int)))), Item.box b2 [(.int .i64 a4.1.1), u4, (.int .i64 a4.2.1), (.int .i64 a4.2.2)], Item.box b1 [u3, (.int .i64 a3.2)]] := hb23 _ _ hq24
                                refine WL_assign rfl rfl ?_
                                refine WL_nil ?_
                                refine W_seq_reg ?_
                                refine WL_assign rfl rfl ?_
                                refine WL_nil ?_
                                refine W_seq_reg ?_
                                refine WL_move rfl rfl ?_
                                refine WL_move rfl rfl ?_
                                obtain ⟨x40, hr35, hF⟩ := bind_some hF
                                refine WL_call Try.call23 rfl rfl (c_Q_heldFactS x38.2 v22 ((hC103.ro 1 rfl).now (Keep.refl _ _)) 1 x40 hr35) ?_
                                intro _ w54 hv31
                                obtain ⟨rfl, hB44⟩ := res_int hv31
                                have hC104 := hC103.grow hB44
                                refine WL_assign rfl rfl ?_
                                refine WL_nil ?_
                                refine W_seq ?_
                                refine W_seq_reg ?_
                                refine WL_move rfl rfl ?_
                                refine WL_lss rfl rfl rfl ?_
                                refine WL_nil ?_
                                refine W_cond rfl (fun hc16 => ?_) (fun hc16 => ?_)
                                · replace hF := ite_t hF hc16
                                  refine W_seq_reg ?_
                                  refine WL_assign rfl rfl ?_
                                  refine WL_nil ?_
                                  refine W_ret ?_
                                  refine nrm_ret ?_
                                  have hq25 := Option.some.inj hF
                                  subst hq25
                                  refine fn_ret1 rfl rfl ?_
                                  exact ⟨_, rfl, bool_res hC104 _⟩
                                · replace hF := ite_f hF hc16
                                  refine W_skip ?_
                                  refine nrm_normal ?_
                                  refine W_seq_reg ?_
                                  refine WL_load_box_agg [(.int .i64 x19.2.1.1.1), v25, (.int .i64 x19.2.1.2.1), (.int .i64 x19.2.1.2.2)] hC104 2 rfl rfl rfl Try.isAgg37 Try.sizeOf37 rfl rfl ?_
                                  refine WL_move rfl rfl ?_
                                  obtain ⟨x41, hr36, hF⟩ := bind_some hF
                                  refine WL_call Try.call24 rfl rfl (c_Q_heldCursor ((x19.2.1.1.1, x39.2.1.2), x19.2.1.2.1, x19.2.1.2.2) v25 ((hC104.ro 0 rfl).now (Keep.refl _ _)) x40 x41 hr36) ?_
                                  intro _ w55 hv32
                                  obtain ⟨rfl, hB45⟩ := res_int hv32
                                  have hC105 := hC104.grow hB45
                                  refine WL_assign rfl rfl ?_
                                  refine WL_nil ?_
                                  refine W_seq ?_
                                  refine W_seq_reg ?_
                                  refine WL_move rfl rfl ?_
                                  refine WL_lss rfl rfl rfl ?_
                                  refine WL_nil ?_
                                  refine W_cond rfl (fun hc17 => ?_) (fun hc17 => ?_)
                                  · replace hF := ite_t hF hc17
                                    refine W_seq_reg ?_
                                    refine WL_assign rfl rfl ?_
                                    refine WL_nil ?_
                                    refine W_ret ?_
                                    refine nrm_ret ?_
                                    have hq26 := Option.some.inj hF
                                    subst hq26
                                    refine fn_ret1 rfl rfl ?_
                                    exact ⟨_, rfl, bool_res hC105 _⟩
                                  · replace hF := ite_f hF hc17
                                    refine W_skip ?_
                                    refine nrm_normal ?_
                                    refine W_seq ?_
                                    refine W_seq_reg ?_
                                    refine WL_move rfl rfl ?_
                                    refine WL_move rfl rfl ?_
                                    refine WL_neq rfl rfl rfl ?_
                                    refine WL_nil ?_
                                    refine W_cond rfl (fun hc18 => ?_) (fun hc18 => ?_)
                                    · replace hF := ite_t hF hc18
                                      refine W_seq_reg ?_
                                      refine WL_assign rfl rfl ?_
                                      refine WL_nil ?_
                                      refine W_ret ?_
                                      refine nrm_ret ?_
                                      have hq27 := Option.some.inj hF
                                      subst hq27
                                      refine fn_ret1 rfl rfl ?_
                                      exact ⟨_, rfl, bool_res hC105 _⟩
                                    · replace hF := ite_f hF hc18
                                      refine W_skip ?_
                                      refine nrm_normal ?_
                                      obtain ⟨r4, hr37, hF⟩ := bind_some hF
                                      refine W_cut (fun l w => ∃ v34 : Value, ∃ x42 : (List (Int × (List Int))), ∃ x43 : Int, ∃ b8 : Nat, ∃ x44 : Int, ∃ v35 : Value, ∃ x45 : (List Int), ∃ x46 : Int, ∃ x47 : Int, (x42, x43, x44, x45, x46, x47) = r4 ∧ l = [(12, v1), (13, (ptr b3 0)), (14, (.int .i64 x5)), (19, v22), (20, (ptr b7 0)), (23, (.int .i64 x39.1)), (25, v34), (26, (ptr b8 0)), (27, (.int .i64 x43))] ∧ Ctx [] w0 w [Item.box b8 [(.int .i64 x44), v35, (.int .i64 x46), (.int .i64 x47)], Item.own v35 (x45 : (List Int)), Item.own v34 (x42 : (List (Int × (List Int)))), Item.own v25 (x39.2.1.2 : (List Int)), Item.own v22 (x38.2 : (List (Int × (List Int)))), Item.box b7 [(.int .i64 x19.2.1.1.1), v25, (.int .i64 x19.2.1.2.1), (.int .i64 x19.2.1.2.2)], Item.box b3 [(.int .i64 x6), v2, (.int .i64 x8), (.int .i64 x9)], Item.own v2 (x7 : (List Int)), Item.own v1 (x4 : (List (Int × (List Int))))]) ?_ ?_
                                      · refine W_drawn 18 rfl hmix (fun w57 hB47 => ?_)
                                        have hC107 := hC105.grow hB47
                                        refine WA_take 0 rfl (by kernel_rfl) (by kernel_rfl) (by kernel_rfl) rfl (fl_move rfl) ?_
                                        refine WL_move rfl rfl ?_
                                        refine WL_nil ?_
                                        refine WA_take 2 rfl (by kernel_rfl) (by kernel_rfl) (by kernel_rfl) rfl (fl_move rfl) ?_
                                        refine WL_move rfl rfl ?_
                                        refine WL_nil ?_
                                        refine WA_take 8 rfl (by kernel_rfl) (by kernel_rfl) (by kernel_rfl) rfl (fl_move rfl) ?_
                                        refine WL_move rfl rfl ?_
                                        refine WL_nil ?_
                                        obtain ⟨x48, hr38, hr37⟩ := bind_some hr37
                                        obtain ⟨x49, hr39, hr37⟩ := bind_some hr37
                                        obtain ⟨x50, hr40, hr37⟩ := bind_some hr37
                                        obtain ⟨x51, hr41, hr37⟩ := bind_some hr37
                                        obtain ⟨x52, hr42, hr37⟩ := bind_some hr37
                                        refine WA.sub (l' := [(0, u1), (1, u2), (4, (.int .i64 a5)), (7, (ptr b1 0)), (8, (ptr b2 0)), (12, v1), (13, (ptr b3 0)), (14, (.int .i64 x5)), (19, v22), (20, (ptr b7 0)), (23, (.int .i64 x39.1)), (24, (.int .i64 x41)), (143, (.bool x35)), (144, v22), (145, (.int .i64 1)), (146, (.int .i64 x38.1)), (147, (.agg #[(.int .i64 x19.2.1.1.1), v25, (.int .i64 x19.2.1.2.1), (.int .i64 x19.2.1.2.2)])), (148, (.int .i64 x38.1)), (149, (.int .i64 x39.1)), (150, v22), (151, (.int .i64 1)), (152, (.int .i64 x40)), (153, (.int .i64 x40)), (154, (.bool (decide (x40 < 0)))), (155, (.agg #[(.int .i64 x19.2.1.1.1), v25, (.int .i64 x19.2.1.2.1), (.int .i64 x19.2.1.2.2)])), (156, (.int .i64 x40)), (157, (.int .i64 x41)), (158, (.int .i64 x41)), (159, (.bool (decide (x41 < 0)))), (160, (.int .i64 x41)), (161, (.int .i64 x39.1)), (162, (.bool (!decide (x41 = x39.1)))), (164, u1), (166, u2), (172, (.int .i64 a5))]) ?_ ⟨rfl, rfl, rfl, rfl, rfl, rfl, rfl, rfl, rfl, rfl, rfl, rfl, rfl, rfl, rfl, rfl, rfl, rfl, rfl, rfl, rfl, rfl, rfl, rfl, rfl, rfl, rfl, rfl, rfl, rfl, rfl, rfl, rfl, rfl, rfl, trivial⟩
                                        refine WA_postsO [⟨1, [], fun vs => PW.own x48, []⟩, ⟨3, [], fun vs => PW.own x49, []⟩, ⟨4, [], fun vs => PW.val (.agg #[u3, (.int .i64 a3.2)]), []⟩, ⟨5, [], fun vs => PW.own x50, []⟩, ⟨6, [], fun vs => PW.val (.agg #[(.int .i64 a4.1.1), u4, (.int .i64 a4.2.1), (.int .i64 a4.2.2)]), []⟩, ⟨7, [], fun vs => PW.own x51, []⟩, ⟨9, [], fun vs => PW.own3 (x52.1 : (List (Int × (List Int)))) (x52.2.1 : ((Int × (List Int)) × Int × Int)) (x52.2.2 : Int), []⟩, ⟨10, [173], fun vs => PW.val (vs.getD 0 undef), []⟩, ⟨11, [163], fun vs => PW.comp (vs.getD 0 undef) 0, []⟩, ⟨12, [163], fun vs => PW.comp (vs.getD 0 undef) 1, []⟩, ⟨13, [163], fun vs => PW.comp (vs.getD 0 undef) 2, []⟩, ⟨14, [], fun vs => PW.box [(.int .i64 0), (.slice none 0 0), (.int .i64 0), (.int .i64 0)], []⟩, ⟨15, [174], fun vs => PW.val (vs.getD 0 undef), []⟩] [[], [], [], [4], [], [6], [1, 3, 5, 7], [9], [9, 10], [9, 10], [9, 10], [], [9, 10, 11]] [13] 2 rfl (by kernel_rfl) (by kernel_rfl) ?_ ⟨?_, ?_, trivial⟩
                                        · refine StepsE_cons rfl ?_ ?_
                                          · intro w64 hB54
                                            refine DepsE_nil ?_
                                            refine ⟨_, rfl, ?_⟩
                                            refine WL_call Try.call8 rfl rfl (c_Q_toIntS a1 u1 (g1.now (hC107.keep.then hB54)) x48 hr38) ?_
                                            rintro v36 w58 ⟨hB48, F20, hv33, hn24, hb24⟩
                                            refine WL_nil ?_
                                            exact FinE_own hB48 rfl rfl hv33 hn24 hb24 (Val.inh hv33)
                                          refine StepsE_cons rfl ?_ ?_
                                          · intro w64 hB54
                                            refine DepsE_nil ?_
                                            refine ⟨_, rfl, ?_⟩
                                            refine WL_call Try.call9 rfl rfl (c_Q_toMethodS a2 u2 (g2.now (hC107.keep.then hB54)) x49 hr39) ?_
                                            rintro v37 w59 ⟨hB49, F21, hv34, hn25, hb25⟩
                                            refine WL_nil ?_
                                            exact FinE_own hB49 rfl rfl hv34 hn25 hb25 (Val.inh hv34)
                                          refine StepsE_cons rfl ?_ ?_
                                          · intro w64 hB54
                                            refine DepsE_nil ?_
                                            refine ⟨_, rfl, ?_⟩
                                            refine WL_load_box_agg [u3, (.int .i64 a3.2)] (hC107.grow hB54) 7 rfl rfl rfl Try.isAgg26 Try.sizeOf26 rfl rfl ?_
                                            refine WL_nil ?_
                                            exact FinE_val (Below.refl _ _) rfl rfl ⟨rfl, rfl⟩
                                          refine StepsE_cons rfl ?_ ?_
                                          · intro w64 hB54
                                            refine DepsE_cons rfl rfl rfl ?_
                                            rintro _ _ ⟨rfl, rfl⟩ _
                                            refine DepsE_nil ?_
                                            refine ⟨_, rfl, ?_⟩
                                            refine WL_call Try.call10 rfl rfl (c_Q_toSource (a3.1, a3.2) u3 (g3.now (hC107.keep.then hB54)) x50 hr40) ?_
                                            rintro v38 w60 ⟨hB50, F22, hv35, hn26, hb26⟩
                                            refine WL_nil ?_
                                            exact FinE_own hB50 rfl rfl hv35 hn26 hb26 (Val.inh hv35)
                                          refine StepsE_cons rfl ?_ ?_
                                          · intro w64 hB54
                                            refine DepsE_nil ?_
                                            refine ⟨_, rfl, ?_⟩
                                            refine WL_load_box_agg [(.int .i64 a4.1.1), u4, (.int .i64 a4.2.1), (.int .i64 a4.2.2)] (hC107.grow hB54) 6 rfl rfl rfl Try.isAgg30 Try.sizeOf30 rfl rfl ?_
                                            refine WL_nil ?_
                                            exact FinE_val (Below.refl _ _) rfl rfl ⟨rfl, rfl⟩
                                          refine StepsE_cons rfl ?_ ?_
                                          · intro w64 hB54
                                            refine DepsE_cons rfl rfl rfl ?_
                                            rintro _ _ ⟨rfl, rfl⟩ _
                                            refine DepsE_nil ?_
                                            refine ⟨_, rfl, ?_⟩
                                            refine WL_call Try.call11 rfl rfl (c_Q_toCursor ((a4.1.1, a4.1.2), a4.2.1, a4.2.2) u4 (g4.now (hC107.keep.then hB54)) x51 hr41) ?_
                                            rintro v40 w61 ⟨hB51, F23, hv36, hn27, hb27⟩
                                            refine WL_nil ?_
                                            exact FinE_own hB51 rfl rfl hv36 hn27 hb27 (Val.inh hv36)
                                          refine StepsE_cons rfl ?_ ?_
                                          · intro w64 hB54
                                            refine DepsE_cons rfl rfl rfl ?_
                                            intro v36 F20 hv33 _
                                            refine DepsE_cons rfl rfl rfl ?_
                                            intro v37 F21 hv34 _
                                            refine DepsE_cons rfl rfl rfl ?_
                                            intro v38 F22 hv35 _
                                            obtain ⟨v39, rfl, h6⟩ := ro_st44 (ro_of_own hv35)
                                            refine DepsE_cons rfl rfl rfl ?_
                                            intro v40 F23 hv36 _
                                            obtain ⟨v41, rfl, h7⟩ := ro_st37 (ro_of_own hv36)
                                            refine DepsE_nil ?_
                                            refine ⟨_, rfl, ?_⟩
                                            refine WL_call Try.call12 rfl rfl (c_M_NextPage x48 v36 (ro_of_own hv33) x49 v37 (ro_of_own hv34) x50 v39 (h6.now (Keep.refl _ _)) x51 v41 (h7.now (Keep.refl _ _)) a5 x52 hr42) ?_
                                            rintro _ w62 ⟨hB52, v42, v43, v44, F24, F25, F26, rfl, hv37, hv38, hv39, hn28, hb28⟩
                                            refine WL_nil ?_
                                            exact FinE_own (F := F24 ++ (F25 ++ F26)) hB52 rfl rfl ⟨_, _, _, _, _, _, rfl, rfl, hv37, hv38, hv39⟩ (by simpa using hn28) (fun b h => hb28 b (by simpa using h)) (fun b h => by simp only [List.mem_append] at h; rcases h with h | h | h; exact Val.inh hv37 b h; exact Val.inh hv38 b h; exact Val.inh hv39 b h)
                                          refine StepsE_cons rfl ?_ ?_
                                          · intro w64 hB54
                                            refine DepsE_cons rfl rfl rfl ?_
                                            rintro _ _ ⟨v42, v43, v44, F24, F25, F26, rfl, rfl, hv37, hv38, hv39⟩ _
                                            obtain ⟨rfl, rfl⟩ := val_int hv39
                                            obtain ⟨v45, rfl, h8⟩ := ro_st37 (ro_of_own hv38)
                                            refine DepsE_nil ?_
                                            refine ⟨_, rfl, ?_⟩
                                            refine WL_move rfl rfl ?_
                                            refine WL_nil ?_
                                            exact FinE_val (Below.refl _ _) rfl rfl ⟨rfl, rfl⟩
                                          refine StepsE_cons rfl ?_ ?_
                                          · intro w64 hB54
                                            refine DepsE_cons rfl rfl rfl ?_
                                            rintro _ _ ⟨v42, v43, v44, F24, F25, F26, rfl, rfl, hv37, hv38, hv39⟩ _
                                            obtain ⟨rfl, rfl⟩ := val_int hv39
                                            obtain ⟨v45, rfl, h8⟩ := ro_st37 (ro_of_own hv38)
                                            refine DepsE_cons rfl rfl rfl ?_
                                            rintro _ _ ⟨rfl, rfl⟩ _
                                            refine DepsE_nil ?_
                                            refine ⟨_, rfl, ?_⟩
                                            refine WL_extract rfl rfl rfl ?_
                                            refine WL_nil ?_
                                            exact FinE_val (Below.refl _ _) rfl rfl ⟨⟨_, rfl, rfl⟩, rfl⟩
                                          refine StepsE_cons rfl ?_ ?_
                                          · intro w64 hB54
                                            refine DepsE_cons rfl rfl rfl ?_
                                            rintro _ _ ⟨v42, v43, v44, F24, F25, F26, rfl, rfl, hv37, hv38, hv39⟩ _
                                            obtain ⟨rfl, rfl⟩ := val_int hv39
                                            obtain ⟨v45, rfl, h8⟩ := ro_st37 (ro_of_own hv38)
                                            refine DepsE_cons rfl rfl rfl ?_
                                            rintro _ _ ⟨rfl, rfl⟩ _
                                            refine DepsE_nil ?_
                                            refine ⟨_, rfl, ?_⟩
                                            refine WL_extract rfl rfl rfl ?_
                                            refine WL_nil ?_
                                            exact FinE_val (Below.refl _ _) rfl rfl ⟨⟨_, rfl, rfl⟩, rfl⟩
                                          refine StepsE_cons rfl ?_ ?_
                                          · intro w64 hB54
                                            refine DepsE_cons rfl rfl rfl ?_
                                            rintro _ _ ⟨v42, v43, v44, F24, F25, F26, rfl, rfl, hv37, hv38, hv39⟩ _
                                            obtain ⟨rfl, rfl⟩ := val_int hv39
                                            obtain ⟨v45, rfl, h8⟩ := ro_st37 (ro_of_own hv38)
                                            refine DepsE_cons rfl rfl rfl ?_
                                            rintro _ _ ⟨rfl, rfl⟩ _
                                            refine DepsE_nil ?_
                                            refine ⟨_, rfl, ?_⟩
                                            refine WL_extract rfl rfl rfl ?_
                                            refine WL_nil ?_
                                            exact FinE_val (Below.refl _ _) rfl rfl ⟨⟨_, rfl, rfl⟩, rfl⟩
                                          refine StepsE_cons rfl ?_ ?_
                                          · intro w64 hB54
                                            refine DepsE_nil ?_
                                            refine ⟨_, rfl, ?_⟩
                                            refine WL_alloc (Ctx.start _) zero37 rfl rfl (fun b9 w63 hC108 hB53 => ?_)
                                            refine WL_nil ?_
                                            exact FinE_ctx hC108 rfl rfl (fun F h => ⟨b9, rfl, h⟩)
                                          refine StepsE_cons rfl ?_ ?_
                                          · intro w64 hB54
                                            refine DepsE_cons rfl rfl rfl ?_
                                            rintro _ _ ⟨v42, v43, v44, F24, F25, F26, rfl, rfl, hv37, hv38, hv39⟩ _
                                            obtain ⟨rfl, rfl⟩ := val_int hv39
                                            obtain ⟨v45, rfl, h8⟩ := ro_st37 (ro_of_own hv38)
                                            refine DepsE_cons rfl rfl rfl ?_
                                            rintro _ _ ⟨rfl, rfl⟩ _
                                            refine DepsE_cons rfl rfl rfl ?_
                                            rintro _ _ ⟨⟨_, hx9, hx10⟩, rfl⟩ _
                                            obtain rfl := Value.tuple.inj hx9
                                            obtain rfl := Option.some.inj (show (some v42 : Option Value) = some _ from hx10)
                                            refine DepsE_nil ?_
                                            refine ⟨_, rfl, ?_⟩
                                            refine WL_assign rfl rfl ?_
                                            refine WL_nil ?_
                                            exact FinE_val (Below.refl _ _) rfl rfl ⟨rfl, rfl⟩
                                          exact StepsE_nil
                                        · intro g' hg'
                                          obtain rfl : g' = 2 := hg'
                                          intro w65 hB55
                                          refine AllE_cons rfl rfl rfl ?_
                                          intro v36 F20 hv33
                                          refine AllE_cons rfl rfl rfl ?_
                                          intro v37 F21 hv34
                                          refine AllE_cons rfl rfl rfl ?_
                                          rintro _ _ ⟨rfl, rfl⟩
                                          refine AllE_cons rfl rfl rfl ?_
                                          intro v38 F22 hv35
                                          refine AllE_cons rfl rfl rfl ?_
                                          rintro _ _ ⟨rfl, rfl⟩
                                          refine AllE_cons rfl rfl rfl ?_
                                          intro v40 F23 hv36
                                          refine AllE_cons rfl rfl rfl ?_
                                          rintro _ _ ⟨v42, v43, v44, F24, F25, F26, rfl, rfl, hv37, hv38, hv39⟩
                                          obtain ⟨rfl, rfl⟩ := val_int hv39
                                          refine AllE_cons rfl rfl rfl ?_
                                          rintro _ _ ⟨rfl, rfl⟩
                                          refine AllE_cons rfl rfl rfl ?_
                                          rintro _ _ ⟨⟨_, hx11, hx12⟩, rfl⟩
                                          obtain rfl := Value.tuple.inj hx11
                                          obtain rfl := Option.some.inj (show (some v42 : Option Value) = some _ from hx12)
                                          refine AllE_cons rfl rfl rfl ?_
                                          rintro _ _ ⟨⟨_, hx13, hx14⟩, rfl⟩
                                          obtain rfl := Value.tuple.inj hx13
                                          obtain rfl := Option.some.inj (show (some v43 : Option Value) = some _ from hx14)
                                          refine AllE_cons rfl rfl rfl ?_
                                          rintro _ _ ⟨⟨_, hx15, hx16⟩, rfl⟩
                                          obtain rfl := Value.tuple.inj hx15
                                          obtain rfl := Option.some.inj (show (some (.int .i64 x52.2.2) : Option Value) = some _ from hx16)
                                          refine AllE_cons rfl rfl rfl ?_
                                          rintro _ F27 ⟨b9, rfl, hv40⟩
                                          refine AllE_cons rfl rfl rfl ?_
                                          rintro _ _ ⟨rfl, rfl⟩
                                          refine AllE_nil ?_
                                          intro hn29 hb29
                                          have hC109 := hC107.pushL hB55 (Bs := [Item.box b9 [(.int .i64 0), (.slice none 0 0), (.int .i64 0), (.int .i64 0)], Item.own v42 (x52.1 : (List (Int × (List Int)))), Item.own v43 (x52.2.1 : ((Int × (List Int)) × Int × Int)), Item.own v40 (x51 : ((Int × (List Int)) × Int × Int)), Item.own v38 (x50 : ((List (Int × (List Int))) × Int)), Item.own v37 (x49 : (List (Int × (List Int) × Int × Int × Int))), Item.own v36 (x48 : (List Int))]) (Fs := [F27, F24, F25, F23, F22, F21, F20]) ⟨F27, _, rfl, hv40, F24, _, rfl, hv37, F25, _, rfl, hv38, F23, _, rfl, hv36, F22, _, rfl, hv35, F21, _, rfl, hv34, F20, _, rfl, hv33, rfl⟩ (by simpa using hn29) (fun b h => (hb29 b (by simpa using h)).1)
                                          have hC110 : Ctx [] w0 _ [Item.own v38 (x50 : ((List (Int × (List Int))) × Int)), Item.box b9 [(.int .i64 0), (.slice none 0 0), (.int .i64 0), (.int .i64 0)], Item.own v42 (x52.1 : (List (Int × (List Int)))), Item.own v43 (x52.2.1 : ((Int × (List Int)) × Int × Int)), Item.own v40 (x51 : ((Int × (List Int)) × Int × Int)), Item.own v37 (x49 : (List (Int × (List Int) × Int × Int × Int))), Item.own v36 (x48 : (List Int)), Item.own v25 (x39.2.1.2 : (List Int)), Item.own v22 (x38.2 : (List (Int × (List Int)))), Item.box b7 [(.int .i64 x19.2.1.1.1), v25, (.int .i64 x19.2.1.2.1), (.int .i64 x19.2.1.2.2)], Item.box b3 [(.int .i64 x6), v2, (.int .i64 x8), (.int .i64 x9)], Item.own v2 (x7 : (List Int)), Item.own v1 (x4 : (List (Int × (List Int)))), Item.box b2 [(.int .i64 a4.1.1), u4, (.int .i64 a4.2.1), (.int .i64 a4.2.2)], Item.box b1 [u3, (.int .i64 a3.2)]] := hC109.front 4 rfl
                                          obtain ⟨v46, rfl, hC111⟩ := st44_own hC110
                                          have hC112 : Ctx [] w0 _ [Item.own v40 (x51 : ((Int × (List Int)) × Int × Int)), Item.own v46 (x50.1 : (List (Int × (List Int)))), Item.box b9 [(.int .i64 0), (.slice none 0 0), (.int .i64 0), (.int .i64 0)], Item.own v42 (x52.1 : (List (Int × (List Int)))), Item.own v43 (x52.2.1 : ((Int × (List Int)) × Int × Int)), Item.own v37 (x49 : (List (Int × (List Int) × Int × Int × Int))), Item.own v36 (x48 : (List Int)), Item.own v25 (x39.2.1.2 : (List Int)), Item.own v22 (x38.2 : (List (Int × (List Int)))), Item.box b7 [(.int .i64 x19.2.1.1.1), v25, (.int .i64 x19.2.1.2.1), (.int .i64 x19.2.1.2.2)], Item.box b3 [(.int .i64 x6), v2, (.int .i64 x8), (.int .i64 x9)], Item.own v2 (x7 : (List Int)), Item.own v1 (x4 : (List (Int × (List Int)))), Item.box b2 [(.int .i64 a4.1.1), u4, (.int .i64 a4.2.1), (.int .i64 a4.2.2)], Item.box b1 [u3, (.int .i64 a3.2)]] := hC111.front 4 rfl
                                          obtain ⟨v47, rfl, hC113⟩ := st37_own hC112
                                          have hC114 : Ctx [] w0 _ [Item.own v43 (x52.2.1 : ((Int × (List Int)) × Int × Int)), Item.own v47 (x51.1.2 : (List Int)), Item.own v46 (x50.1 : (List (Int × (List Int)))), Item.box b9 [(.int .i64 0), (.slice none 0 0), (.int .i64 0), (.int .i64 0)], Item.own v42 (x52.1 : (List (Int × (List Int)))), Item.own v37 (x49 : (List (Int × (List Int) × Int × Int × Int))), Item.own v36 (x48 : (List Int)), Item.own v25 (x39.2.1.2 : (List Int)), Item.own v22 (x38.2 : (List (Int × (List Int)))), Item.box b7 [(.int .i64 x19.2.1.1.1), v25, (.int .i64 x19.2.1.2.1), (.int .i64 x19.2.1.2.2)], Item.box b3 [(.int .i64 x6), v2, (.int .i64 x8), (.int .i64 x9)], Item.own v2 (x7 : (List Int)), Item.own v1 (x4 : (List (Int × (List Int)))), Item.box b2 [(.int .i64 a4.1.1), u4, (.int .i64 a4.2.1), (.int .i64 a4.2.2)], Item.box b1 [u3, (.int .i64 a3.2)]] := hC113.front 4 rfl
                                          obtain ⟨v48, rfl, hC115⟩ := st37_own hC114
                                          refine WA_one 16 (by kernel_rfl) rfl ?_
                                          refine WL_store_box_agg (cs' := [(.int .i64 x52.2.1.1.1), v48, (.int .i64 x52.2.1.2.1), (.int .i64 x52.2.1.2.2)]) (new := [(.int .i64 x52.2.1.1.1), v48, (.int .i64 x52.2.1.2.1), (.int .i64 x52.2.1.2.2)]) hC115 3 rfl rfl (by intro v hv; simp only [List.mem_cons, List.not_mem_nil, or_false] at hv; rcases hv with rfl | rfl | rfl | rfl; exact rfl; exact (ro_one (hC115.ro 0 rfl)); exact rfl; exact rfl) rfl Try.sizeOf37 rfl rfl (fun w66 hC116 => ?_)
                                          try dsimp only [List.set] at hC116
                                          refine WL_nil ?_
                                          refine WA_take 17 rfl (by kernel_rfl) (by kernel_rfl) (by kernel_rfl) rfl (fl_assign rfl) ?_
                                          refine WL_assign rfl rfl ?_
                                          refine WL_nil ?_
                                          refine WA_done (by kernel_rfl) ?_
                                          have hq28 := Option.some.inj hr37
                                          subst hq28
                                          have hC117 : Ctx [] w0 _ [Item.own v1 (x4 : (List (Int × (List Int)))), Item.own v48 (x52.2.1.1.2 : (List Int)), Item.own v47 (x51.1.2 : (List Int)), Item.own v46 (x50.1 : (List (Int × (List Int)))), Item.box b9 [(.int .i64 x52.2.1.1.1), v48, (.int .i64 x52.2.1.2.1), (.int .i64 x52.2.1.2.2)], Item.own v42 (x52.1 : (List (Int × (List Int)))), Item.own v37 (x49 : (List (Int × (List Int) × Int × Int × Int))), Item.own v36 (x48 : (List Int)), Item.own v25 (x39.2.1.2 : (List Int)), Item.own v22 (x38.2 : (List (Int × (List Int)))), Item.box b7 [(.int .i64 x19.2.1.1.1), v25, (.int .i64 x19.2.1.2.1), (.int .i64 x19.2.1.2.2)], Item.box b3 [(.int .i64 x6), v2, (.int .i64 x8), (.int .i64 x9)], Item.own v2 (x7 : (List Int)), Item.box b2 [(.int .i64 a4.1.1), u4, (.int .i64 a4.2.1), (.int .i64 a4.2.2)], Item.box b1 [u3, (.int .i64 a3.2)]] := hC116.front 12 rfl
                                          have hC118 : Ctx [] w0 _ [Item.own v2 (x7 : (List Int)), Item.own v1 (x4 : (List (Int × (List Int)))), Item.own v48 (x52.2.1.1.2 : (List Int)), Item.own v47 (x51.1.2 : (List Int)), Item.own v46 (x50.1 : (List (Int × (List Int)))), Item.box b9 [(.int .i64 x52.2.1.1.1), v48, (.int .i64 x52.2.1.2.1), (.int .i64 x52.2.1.2.2)], Item.own v42 (x52.1 : (List (Int × (List Int)))), Item.own v37 (x49 : (List (Int × (List Int) × Int × Int × Int))), Item.own v36 (x48 : (List Int)), Item.own v25 (x39.2.1.2 : (List Int)), Item.own v22 (x38.2 : (List (Int × (List Int)))), Item.box b7 [(.int .i64 x19.2.1.1.1), v25, (.int .i64 x19.2.1.2.1), (.int .i64 x19.2.1.2.2)], Item.box b3 [(.int .i64 x6), v2, (.int .i64 x8), (.int .i64 x9)], Item.box b2 [(.int .i64 a4.1.1), u4, (.int .i64 a4.2.1), (.int .i64 a4.2.2)], Item.box b1 [u3, (.int .i64 a3.2)]] := hC117.front 12 rfl
                                          have hC119 : Ctx [] w0 _ [Item.box b3 [(.int .i64 x6), v2, (.int .i64 x8), (.int .i64 x9)], Item.own v2 (x7 : (List Int)), Item.own v1 (x4 : (List (Int × (List Int)))), Item.own v48 (x52.2.1.1.2 : (List Int)), Item.own v47 (x51.1.2 : (List Int)), Item.own v46 (x50.1 : (List (Int × (List Int)))), Item.box b9 [(.int .i64 x52.2.1.1.1), v48, (.int .i64 x52.2.1.2.1), (.int .i64 x52.2.1.2.2)], Item.own v42 (x52.1 : (List (Int × (List Int)))), Item.own v37 (x49 : (List (Int × (List Int) × Int × Int × Int))), Item.own v36 (x48 : (List Int)), Item.own v25 (x39.2.1.2 : (List Int)), Item.own v22 (x38.2 : (List (Int × (List Int)))), Item.box b7 [(.int .i64 x19.2.1.1.1), v25, (.int .i64 x19.2.1.2.1), (.int .i64 x19.2.1.2.2)], Item.box b2 [(.int .i64 a4.1.1), u4, (.int .i64 a4.2.1), (.int .i64 a4.2.2)], Item.box b1 [u3, (.int .i64 a3.2)]] := hC118.front 12 rfl
                                          have hC120 : Ctx [] w0 _ [Item.box b7 [(.int .i64 x19.2.1.1.1), v25, (.int .i64 x19.2.1.2.1), (.int .i64 x19.2.1.2.2)], Item.box b3 [(.int .i64 x6), v2, (.int .i64 x8), (.int .i64 x9)], Item.own v2 (x7 : (List Int)), Item.own v1 (x4 : (List (Int × (List Int)))), Item.own v48 (x52.2.1.1.2 : (List Int)), Item.own v47 (x51.1.2 : (List Int)), Item.own v46 (x50.1 : (List (Int × (List Int)))), Item.box b9 [(.int .i64 x52.2.1.1.1), v48, (.int .i64 x52.2.1.2.1), (.int .i64 x52.2.1.2.2)], Item.own v42 (x52.1 : (List (Int × (List Int)))), Item.own v37 (x49 : (List (Int × (List Int) × Int × Int × Int))), Item.own v36 (x48 : (List Int)), Item.own v25 (x39.2.1.2 : (List Int)), Item.own v22 (x38.2 : (List (Int × (List Int)))), Item.box b2 [(.int .i64 a4.1.1), u4, (.int .i64 a4.2.1), (.int .i64 a4.2.2)], Item.box b1 [u3, (.int .i64 a3.2)]] := hC119.front 12 rfl
                                          have hC121 : Ctx [] w0 _ [Item.own v22 (x38.2 : (List (Int × (List Int)))), Item.box b7 [(.int .i64 x19.2.1.1.1), v25, (.int .i64 x19.2.1.2.1), (.int .i64 x19.2.1.2.2)], Item.box b3 [(.int .i64 x6), v2, (.int .i64 x8), (.int .i64 x9)], Item.own v2 (x7 : (List Int)), Item.own v1 (x4 : (List (Int × (List Int)))), Item.own v48 (x52.2.1.1.2 : (List Int)), Item.own v47 (x51.1.2 : (List Int)), Item.own v46 (x50.1 : (List (Int × (List Int)))), Item.box b9 [(.int .i64 x52.2.1.1.1), v48, (.int .i64 x52.2.1.2.1), (.int .i64 x52.2.1.2.2)], Item.own v42 (x52.1 : (List (Int × (List Int)))), Item.own v37 (x49 : (List (Int × (List Int) × Int × Int × Int))), Item.own v36 (x48 : (List Int)), Item.own v25 (x39.2.1.2 : (List Int)), Item.box b2 [(.int .i64 a4.1.1), u4, (.int .i64 a4.2.1), (.int .i64 a4.2.2)], Item.box b1 [u3, (.int .i64 a3.2)]] := hC120.front 12 rfl
                                          have hC122 : Ctx [] w0 _ [Item.own v25 (x39.2.1.2 : (List Int)), Item.own v22 (x38.2 : (List (Int × (List Int)))), Item.box b7 [(.int .i64 x19.2.1.1.1), v25, (.int .i64 x19.2.1.2.1), (.int .i64 x19.2.1.2.2)], Item.box b3 [(.int .i64 x6), v2, (.int .i64 x8), (.int .i64 x9)], Item.own v2 (x7 : (List Int)), Item.own v1 (x4 : (List (Int × (List Int)))), Item.own v48 (x52.2.1.1.2 : (List Int)), Item.own v47 (x51.1.2 : (List Int)), Item.own v46 (x50.1 : (List (Int × (List Int)))), Item.box b9 [(.int .i64 x52.2.1.1.1), v48, (.int .i64 x52.2.1.2.1), (.int .i64 x52.2.1.2.2)], Item.own v42 (x52.1 : (List (Int × (List Int)))), Item.own v37 (x49 : (List (Int × (List Int) × Int × Int × Int))), Item.own v36 (x48 : (List Int)), Item.box b2 [(.int .i64 a4.1.1), u4, (.int .i64 a4.2.1), (.int .i64 a4.2.2)], Item.box b1 [u3, (.int .i64 a3.2)]] := hC121.front 12 rfl
                                          have hC123 : Ctx [] w0 _ [Item.own v42 (x52.1 : (List (Int × (List Int)))), Item.own v25 (x39.2.1.2 : (List Int)), Item.own v22 (x38.2 : (List (Int × (List Int)))), Item.box b7 [(.int .i64 x19.2.1.1.1), v25, (.int .i64 x19.2.1.2.1), (.int .i64 x19.2.1.2.2)], Item.box b3 [(.int .i64 x6), v2, (.int .i64 x8), (.int .i64 x9)], Item.own v2 (x7 : (List Int)), Item.own v1 (x4 : (List (Int × (List Int)))), Item.own v48 (x52.2.1.1.2 : (List Int)), Item.own v47 (x51.1.2 : (List Int)), Item.own v46 (x50.1 : (List (Int × (List Int)))), Item.box b9 [(.int .i64 x52.2.1.1.1), v48, (.int .i64 x52.2.1.2.1), (.int .i64 x52.2.1.2.2)], Item.own v37 (x49 : (List (Int × (List Int) × Int × Int × Int))), Item.own v36 (x48 : (List Int)), Item.box b2 [(.int .i64 a4.1.1), u4, (.int .i64 a4.2.1), (.int .i64 a4.2.2)], Item.box b1 [u3, (.int .i64 a3.2)]] := hC122.front 10 rfl
                                          have hC124 : Ctx [] w0 _ [Item.own v48 (x52.2.1.1.2 : (List Int)), Item.own v42 (x52.1 : (List (Int × (List Int)))), Item.own v25 (x39.2.1.2 : (List Int)), Item.own v22 (x38.2 : (List (Int × (List Int)))), Item.box b7 [(.int .i64 x19.2.1.1.1), v25, (.int .i64 x19.2.1.2.1), (.int .i64 x19.2.1.2.2)], Item.box b3 [(.int .i64 x6), v2, (.int .i64 x8), (.int .i64 x9)], Item.own v2 (x7 : (List Int)), Item.own v1 (x4 : (List (Int × (List Int)))), Item.own v47 (x51.1.2 : (List Int)), Item.own v46 (x50.1 : (List (Int × (List Int)))), Item.box b9 [(.int .i64 x52.2.1.1.1), v48, (.int .i64 x52.2.1.2.1), (.int .i64 x52.2.1.2.2)], Item.own v37 (x49 : (List (Int × (List Int) × Int × Int × Int))), Item.own v36 (x48 : (List Int)), Item.box b2 [(.int .i64 a4.1.1), u4, (.int .i64 a4.2.1), (.int .i64 a4.2.2)], Item.box b1 [u3, (.int .i64 a3.2)]] := hC123.front 7 rfl
                                          have hC125 : Ctx [] w0 _ [Item.box b9 [(.int .i64 x52.2.1.1.1), v48, (.int .i64 x52.2.1.2.1), (.int .i64 x52.2.1.2.2)], Item.own v48 (x52.2.1.1.2 : (List Int)), Item.own v42 (x52.1 : (List (Int × (List Int)))), Item.own v25 (x39.2.1.2 : (List Int)), Item.own v22 (x38.2 : (List (Int × (List Int)))), Item.box b7 [(.int .i64 x19.2.1.1.1), v25, (.int .i64 x19.2.1.2.1), (.int .i64 x19.2.1.2.2)], Item.box b3 [(.int .i64 x6), v2, (.int .i64 x8), (.int .i64 x9)], Item.own v2 (x7 : (List Int)), Item.own v1 (x4 : (List (Int × (List Int)))), Item.own v47 (x51.1.2 : (List Int)), Item.own v46 (x50.1 : (List (Int × (List Int)))), Item.own v37 (x49 : (List (Int × (List Int) × Int × Int × Int))), Item.own v36 (x48 : (List Int)), Item.box b2 [(.int .i64 a4.1.1), u4, (.int .i64 a4.2.1), (.int .i64 a4.2.2)], Item.box b1 [u3, (.int .i64 a3.2)]] := hC124.front 10 rfl
                                          have hC126 : Ctx [] w0 _ [Item.box b9 [(.int .i64 x52.2.1.1.1), v48, (.int .i64 x52.2.1.2.1), (.int .i64 x52.2.1.2.2)], Item.own v48 (x52.2.1.1.2 : (List Int)), Item.own v42 (x52.1 : (List (Int × (List Int)))), Item.own v25 (x39.2.1.2 : (List Int)), Item.own v22 (x38.2 : (List (Int × (List Int)))), Item.box b7 [(.int .i64 x19.2.1.1.1), v25, (.int .i64 x19.2.1.2.1), (.int .i64 x19.2.1.2.2)], Item.box b3 [(.int .i64 x6), v2, (.int .i64 x8), (.int .i64 x9)], Item.own v2 (x7 : (List Int)), Item.own v1 (x4 : (List (Int × (List Int))))] := hC125.headN 9
                                          refine nrm_sub (l' := [(12, v1), (13, (ptr b3 0)), (14, (.int .i64 x5)), (19, v22), (20, (ptr b7 0)), (23, (.int .i64 x39.1)), (25, v42), (26, (ptr b9 0)), (27, (.int .i64 x52.2.2))]) ⟨rfl, rfl, rfl, rfl, rfl, rfl, rfl, rfl, rfl, trivial⟩ ?_
                                          exact ⟨v42, x52.1, x52.2.2, b9, x52.2.1.1.1, v48, x52.2.1.1.2, x52.2.1.2.1, x52.2.1.2.2, rfl, rfl, hC126⟩
                                        · intro g' hg'
                                          obtain rfl : g' = 3 := hg'
                                          intro w65 hB55
                                          refine AllE_cons rfl rfl rfl ?_
                                          intro v36 F20 hv33
                                          refine AllE_cons rfl rfl rfl ?_
                                          intro v37 F21 hv34
                                          refine AllE_cons rfl rfl rfl ?_
                                          rintro _ _ ⟨rfl, rfl⟩
                                          refine AllE_cons rfl rfl rfl ?_
                                          intro v38 F22 hv35
                                          refine AllE_cons rfl rfl rfl ?_
                                          rintro _ _ ⟨rfl, rfl⟩
                                          refine AllE_cons rfl rfl rfl ?_
                                          intro v40 F23 hv36
                                          refine AllE_cons rfl rfl rfl ?_
                                          rintro _ _ ⟨v42, v43, v44, F24, F25, F26, rfl, rfl, hv37, hv38, hv39⟩
                                          obtain ⟨rfl, rfl⟩ := val_int hv39
                                          refine AllE_cons rfl rfl rfl ?_
                                          rintro _ _ ⟨rfl, rfl⟩
                                          refine AllE_cons rfl rfl rfl ?_
                                          rintro _ _ ⟨⟨_, hx11, hx12⟩, rfl⟩
                                          obtain rfl := Value.tuple.inj hx11
                                          obtain rfl := Option.some.inj (show (some v42 : Option Value) = some _ from hx12)
                                          refine AllE_cons rfl rfl rfl ?_
                                          rintro _ _ ⟨⟨_, hx13, hx14⟩, rfl⟩
                                          obtain rfl := Value.tuple.inj hx13
                                          obtain rfl := Option.some.inj (show (some v43 : Option Value) = some _ from hx14)
                                          refine AllE_cons rfl rfl rfl ?_
                                          rintro _ F27 ⟨b9, rfl, hv40⟩
                                          refine AllE_cons rfl rfl rfl ?_
                                          rintro _ _ ⟨rfl, rfl⟩
                                          refine AllE_nil ?_
                                          intro hn29 hb29
                                          have hC109 := hC107.pushL hB55 (Bs := [Item.box b9 [(.int .i64 0), (.slice none 0 0), (.int .i64 0), (.int .i64 0)], Item.own v42 (x52.1 : (List (Int × (List Int)))), Item.own v43 (x52.2.1 : ((Int × (List Int)) × Int × Int)), Item.own v40 (x51 : ((Int × (List Int)) × Int × Int)), Item.own v38 (x50 : ((List (Int × (List Int))) × Int)), Item.own v37 (x49 : (List (Int × (List Int) × Int × Int × Int))), Item.own v36 (x48 : (List Int))]) (Fs := [F27, F24, F25, F23, F22, F21, F20]) ⟨F27, _, rfl, hv40, F24, _, rfl, hv37, F25, _, rfl, hv38, F23, _, rfl, hv36, F22, _, rfl, hv35, F21, _, rfl, hv34, F20, _, rfl, hv33, rfl⟩ (by simpa using hn29) (fun b h => (hb29 b (by simpa using h)).1)
                                          have hC110 : Ctx [] w0 _ [Item.own v38 (x50 : ((List (Int × (List Int))) × Int)), Item.box b9 [(.int .i64 0), (.slice none 0 0), (.int .i64 0), (.int .i64 0)], Item.own v42 (x52.1 : (List (Int × (List Int)))), Item.own v43 (x52.2.1 : ((Int × (List Int)) × Int × Int)), Item.own v40 (x51 : ((Int × (List Int)) × Int × Int)), Item.own v37 (x49 : (List (Int × (List Int) × Int × Int × Int))), Item.own v36 (x48 : (List Int)), Item.own v25 (x39.2.1.2 : (List Int)), Item.own v22 (x38.2 : (List (Int × (List Int)))), Item.box b7 [(.int .i64 x19.2.1.1.1), v25, (.int .i64 x19.2.1.2.1), (.int .i64 x19.2.1.2.2)], Item.box b3 [(.int .i64 x6), v2, (.int .i64 x8), (.int .i64 x9)], Item.own v2 (x7 : (List Int)), Item.own v1 (x4 : (List (Int × (List Int)))), Item.box b2 [(.int .i64 a4.1.1), u4, (.int .i64 a4.2.1), (.int .i64 a4.2.2)], Item.box b1 [u3, (.int .i64 a3.2)]] := hC109.front 4 rfl
                                          obtain ⟨v46, rfl, hC111⟩ := st44_own hC110
                                          have hC112 : Ctx [] w0 _ [Item.own v40 (x51 : ((Int × (List Int)) × Int × Int)), Item.own v46 (x50.1 : (List (Int × (List Int)))), Item.box b9 [(.int .i64 0), (.slice none 0 0), (.int .i64 0), (.int .i64 0)], Item.own v42 (x52.1 : (List (Int × (List Int)))), Item.own v43 (x52.2.1 : ((Int × (List Int)) × Int × Int)), Item.own v37 (x49 : (List (Int × (List Int) × Int × Int × Int))), Item.own v36 (x48 : (List Int)), Item.own v25 (x39.2.1.2 : (List Int)), Item.own v22 (x38.2 : (List (Int × (List Int)))), Item.box b7 [(.int .i64 x19.2.1.1.1), v25, (.int .i64 x19.2.1.2.1), (.int .i64 x19.2.1.2.2)], Item.box b3 [(.int .i64 x6), v2, (.int .i64 x8), (.int .i64 x9)], Item.own v2 (x7 : (List Int)), Item.own v1 (x4 : (List (Int × (List Int)))), Item.box b2 [(.int .i64 a4.1.1), u4, (.int .i64 a4.2.1), (.int .i64 a4.2.2)], Item.box b1 [u3, (.int .i64 a3.2)]] := hC111.front 4 rfl
                                          obtain ⟨v47, rfl, hC113⟩ := st37_own hC112
                                          have hC114 : Ctx [] w0 _ [Item.own v43 (x52.2.1 : ((Int × (List Int)) × Int × Int)), Item.own v47 (x51.1.2 : (List Int)), Item.own v46 (x50.1 : (List (Int × (List Int)))), Item.box b9 [(.int .i64 0), (.slice none 0 0), (.int .i64 0), (.int .i64 0)], Item.own v42 (x52.1 : (List (Int × (List Int)))), Item.own v37 (x49 : (List (Int × (List Int) × Int × Int × Int))), Item.own v36 (x48 : (List Int)), Item.own v25 (x39.2.1.2 : (List Int)), Item.own v22 (x38.2 : (List (Int × (List Int)))), Item.box b7 [(.int .i64 x19.2.1.1.1), v25, (.int .i64 x19.2.1.2.1), (.int .i64 x19.2.1.2.2)], Item.box b3 [(.int .i64 x6), v2, (.int .i64 x8), (.int .i64 x9)], Item.own v2 (x7 : (List Int)), Item.own v1 (x4 : (List (Int × (List Int)))), Item.box b2 [(.int .i64 a4.1.1), u4, (.int .i64 a4.2.1), (.int .i64 a4.2.2)], Item.box b1 [u3, (.int .i64 a3.2)]] := hC113.front 4 rfl
                                          obtain ⟨v48, rfl, hC115⟩ := st37_own hC114
                                          refine WA_take 13 rfl (by kernel_rfl) (by kernel_rfl) (by kernel_rfl) rfl (fl_extract rfl rfl) ?_
                                          refine WL_extract rfl rfl rfl ?_
                                          refine WL_nil ?_
                                          refine WA_one 16 (by kernel_rfl) rfl ?_
                                          refine WL_store_box_agg (cs' := [(.int .i64 x52.2.1.1.1), v48, (.int .i64 x52.2.1.2.1), (.int .i64 x52.2.1.2.2)]) (new := [(.int .i64 x52.2.1.1.1), v48, (.int .i64 x52.2.1.2.1), (.int .i64 x52.2.1.2.2)]) hC115 3 rfl rfl (by intro v hv; simp only [List.mem_cons, List.not_mem_nil, or_false] at hv; rcases hv with rfl | rfl | rfl | rfl; exact rfl; exact (ro_one (hC115.ro 0 rfl)); exact rfl; exact rfl) rfl Try.sizeOf37 rfl rfl (fun w66 hC116 => ?_)
                                          try dsimp only [List.set] at hC116
                                          refine WL_nil ?_
                                          refine WA_take 17 rfl (by kernel_rfl) (by kernel_rfl) (by kernel_rfl) rfl (fl_assign rfl) ?_
                                          refine WL_assign rfl rfl ?_
                                          refine WL_nil ?_
                                          refine WA_done (by kernel_rfl) ?_
                                          have hq28 := Option.some.inj hr37
                                          subst hq28
                                          have hC117 : Ctx [] w0 _ [Item.own v1 (x4 : (List (Int × (List Int)))), Item.own v48 (x52.2.1.1.2 : (List Int)), Item.own v47 (x51.1.2 : (List Int)), Item.own v46 (x50.1 : (List (Int × (List Int)))), Item.box b9 [(.int .i64 x52.2.1.1.1), v48, (.int .i64 x52.2.1.2.1), (.int .i64 x52.2.1.2.2)], Item.own v42 (x52.1 : (List (Int × (List Int)))), Item.own v37 (x49 : (List (Int × (List Int) × Int × Int × Int))), Item.own v36 (x48 : (List Int)), Item.own v25 (x39.2.1.2 : (List Int)), Item.own v22 (x38.2 : (List (Int × (List Int)))), Item.box b7 [(.int .i64 x19.2.1.1.1), v25, (.int .i64 x19.2.1.2.1), (.int .i64 x19.2.1.2.2)], Item.box b3 [(.int .i64 x6), v2, (.int .i64 x8), (.int .i64 x9)], Item.own v2 (x7 : (List Int)), Item.box b2 [(.int .i64 a4.1.1), u4, (.int .i64 a4.2.1), (.int .i64 a4.2.2)], Item.box b1 [u3, (.int .i64 a3.2)]] := hC116.front 12 rfl
                                          have hC118 : Ctx [] w0 _ [Item.own v2 (x7 : (List Int)), Item.own v1 (x4 : (List (Int × (List Int)))), Item.own v48 (x52.2.1.1.2 : (List Int)), Item.own v47 (x51.1.2 : (List Int)), Item.own v46 (x50.1 : (List (Int × (List Int)))), Item.box b9 [(.int .i64 x52.2.1.1.1), v48, (.int .i64 x52.2.1.2.1), (.int .i64 x52.2.1.2.2)], Item.own v42 (x52.1 : (List (Int × (List Int)))), Item.own v37 (x49 : (List (Int × (List Int) × Int × Int × Int))), Item.own v36 (x48 : (List Int)), Item.own v25 (x39.2.1.2 : (List Int)), Item.own v22 (x38.2 : (List (Int × (List Int)))), Item.box b7 [(.int .i64 x19.2.1.1.1), v25, (.int .i64 x19.2.1.2.1), (.int .i64 x19.2.1.2.2)], Item.box b3 [(.int .i64 x6), v2, (.int .i64 x8), (.int .i64 x9)], Item.box b2 [(.int .i64 a4.1.1), u4, (.int .i64 a4.2.1), (.int .i64 a4.2.2)], Item.box b1 [u3, (.int .i64 a3.2)]] := hC117.front 12 rfl
                                          have hC119 : Ctx [] w0 _ [Item.box b3 [(.int .i64 x6), v2, (.int .i64 x8), (.int .i64 x9)], Item.own v2 (x7 : (List Int)), Item.own v1 (x4 : (List (Int × (List Int)))), Item.own v48 (x52.2.1.1.2 : (List Int)), Item.own v47 (x51.1.2 : (List Int)), Item.own v46 (x50.1 : (List (Int × (List Int)))), Item.box b9 [(.int .i64 x52.2.1.1.1), v48, (.int .i64 x52.2.1.2.1), (.int .i64 x52.2.1.2.2)], Item.own v42 (x52.1 : (List (Int × (List Int)))), Item.own v37 (x49 : (List (Int × (List Int) × Int × Int × Int))), Item.own v36 (x48 : (List Int)), Item.own v25 (x39.2.1.2 : (List Int)), Item.own v22 (x38.2 : (List (Int × (List Int)))), Item.box b7 [(.int .i64 x19.2.1.1.1), v25, (.int .i64 x19.2.1.2.1), (.int .i64 x19.2.1.2.2)], Item.box b2 [(.int .i64 a4.1.1), u4, (.int .i64 a4.2.1), (.int .i64 a4.2.2)], Item.box b1 [u3, (.int .i64 a3.2)]] := hC118.front 12 rfl
                                          have hC120 : Ctx [] w0 _ [Item.box b7 [(.int .i64 x19.2.1.1.1), v25, (.int .i64 x19.2.1.2.1), (.int .i64 x19.2.1.2.2)], Item.box b3 [(.int .i64 x6), v2, (.int .i64 x8), (.int .i64 x9)], Item.own v2 (x7 : (List Int)), Item.own v1 (x4 : (List (Int × (List Int)))), Item.own v48 (x52.2.1.1.2 : (List Int)), Item.own v47 (x51.1.2 : (List Int)), Item.own v46 (x50.1 : (List (Int × (List Int)))), Item.box b9 [(.int .i64 x52.2.1.1.1), v48, (.int .i64 x52.2.1.2.1), (.int .i64 x52.2.1.2.2)], Item.own v42 (x52.1 : (List (Int × (List Int)))), Item.own v37 (x49 : (List (Int × (List Int) × Int × Int × Int))), Item.own v36 (x48 : (List Int)), Item.own v25 (x39.2.1.2 : (List Int)), Item.own v22 (x38.2 : (List (Int × (List Int)))), Item.box b2 [(.int .i64 a4.1.1), u4, (.int .i64 a4.2.1), (.int .i64 a4.2.2)], Item.box b1 [u3, (.int .i64 a3.2)]] := hC119.front 12 rfl
                                          have hC121 : Ctx [] w0 _ [Item.own v22 (x38.2 : (List (Int × (List Int)))), Item.box b7 [(.int .i64 x19.2.1.1.1), v25, (.int .i64 x19.2.1.2.1), (.int .i64 x19.2.1.2.2)], Item.box b3 [(.int .i64 x6), v2, (.int .i64 x8), (.int .i64 x9)], Item.own v2 (x7 : (List Int)), Item.own v1 (x4 : (List (Int × (List Int)))), Item.own v48 (x52.2.1.1.2 : (List Int)), Item.own v47 (x51.1.2 : (List Int)), Item.own v46 (x50.1 : (List (Int × (List Int)))), Item.box b9 [(.int .i64 x52.2.1.1.1), v48, (.int .i64 x52.2.1.2.1), (.int .i64 x52.2.1.2.2)], Item.own v42 (x52.1 : (List (Int × (List Int)))), Item.own v37 (x49 : (List (Int × (List Int) × Int × Int × Int))), Item.own v36 (x48 : (List Int)), Item.own v25 (x39.2.1.2 : (List Int)), Item.box b2 [(.int .i64 a4.1.1), u4, (.int .i64 a4.2.1), (.int .i64 a4.2.2)], Item.box b1 [u3, (.int .i64 a3.2)]] := hC120.front 12 rfl
                                          have hC122 : Ctx [] w0 _ [Item.own v25 (x39.2.1.2 : (List Int)), Item.own v22 (x38.2 : (List (Int × (List Int)))), Item.box b7 [(.int .i64 x19.2.1.1.1), v25, (.int .i64 x19.2.1.2.1), (.int .i64 x19.2.1.2.2)], Item.box b3 [(.int .i64 x6), v2, (.int .i64 x8), (.int .i64 x9)], Item.own v2 (x7 : (List Int)), Item.own v1 (x4 : (List (Int × (List Int)))), Item.own v48 (x52.2.1.1.2 : (List Int)), Item.own v47 (x51.1.2 : (List Int)), Item.own v46 (x50.1 : (List (Int × (List Int)))), Item.box b9 [(.int .i64 x52.2.1.1.1), v48, (.int .i64 x52.2.1.2.1), (.int .i64 x52.2.1.2.2)], Item.own v42 (x52.1 : (List (Int × (List Int)))), Item.own v37 (x49 : (List (Int × (List Int) × Int × Int × Int))), Item.own v36 (x48 : (List Int)), Item.box b2 [(.int .i64 a4.1.1), u4, (.int .i64 a4.2.1), (.int .i64 a4.2.2)], Item.box b1 [u3, (.int .i64 a3.2)]] := hC121.front 12 rfl
                                          have hC123 : Ctx [] w0 _ [Item.own v42 (x52.1 : (List (Int × (List Int)))), Item.own v25 (x39.2.1.2 : (List Int)), Item.own v22 (x38.2 : (List (Int × (List Int)))), Item.box b7 [(.int .i64 x19.2.1.1.1), v25, (.int .i64 x19.2.1.2.1), (.int .i64 x19.2.1.2.2)], Item.box b3 [(.int .i64 x6), v2, (.int .i64 x8), (.int .i64 x9)], Item.own v2 (x7 : (List Int)), Item.own v1 (x4 : (List (Int × (List Int)))), Item.own v48 (x52.2.1.1.2 : (List Int)), Item.own v47 (x51.1.2 : (List Int)), Item.own v46 (x50.1 : (List (Int × (List Int)))), Item.box b9 [(.int .i64 x52.2.1.1.1), v48, (.int .i64 x52.2.1.2.1), (.int .i64 x52.2.1.2.2)], Item.own v37 (x49 : (List (Int × (List Int) × Int × Int × Int))), Item.own v36 (x48 : (List Int)), Item.box b2 [(.int .i64 a4.1.1), u4, (.int .i64 a4.2.1), (.int .i64 a4.2.2)], Item.box b1 [u3, (.int .i64 a3.2)]] := hC122.front 10 rfl
                                          have hC124 : Ctx [] w0 _ [Item.own v48 (x52.2.1.1.2 : (List Int)), Item.own v42 (x52.1 : (List (Int × (List Int)))), Item.own v25 (x39.2.1.2 : (List Int)), Item.own v22 (x38.2 : (List (Int × (List Int)))), Item.box b7 [(.int .i64 x19.2.1.1.1), v25, (.int .i64 x19.2.1.2.1), (.int .i64 x19.2.1.2.2)], Item.box b3 [(.int .i64 x6), v2, (.int .i64 x8), (.int .i64 x9)], Item.own v2 (x7 : (List Int)), Item.own v1 (x4 : (List (Int × (List Int)))), Item.own v47 (x51.1.2 : (List Int)), Item.own v46 (x50.1 : (List (Int × (List Int)))), Item.box b9 [(.int .i64 x52.2.1.1.1), v48, (.int .i64 x52.2.1.2.1), (.int .i64 x52.2.1.2.2)], Item.own v37 (x49 : (List (Int × (List Int) × Int × Int × Int))), Item.own v36 (x48 : (List Int)), Item.box b2 [(.int .i64 a4.1.1), u4, (.int .i64 a4.2.1), (.int .i64 a4.2.2)], Item.box b1 [u3, (.int .i64 a3.2)]] := hC123.front 7 rfl
                                          have hC125 : Ctx [] w0 _ [Item.box b9 [(.int .i64 x52.2.1.1.1), v48, (.int .i64 x52.2.1.2.1), (.int .i64 x52.2.1.2.2)], Item.own v48 (x52.2.1.1.2 : (List Int)), Item.own v42 (x52.1 : (List (Int × (List Int)))), Item.own v25 (x39.2.1.2 : (List Int)), Item.own v22 (x38.2 : (List (Int × (List Int)))), Item.box b7 [(.int .i64 x19.2.1.1.1), v25, (.int .i64 x19.2.1.2.1), (.int .i64 x19.2.1.2.2)], Item.box b3 [(.int .i64 x6), v2, (.int .i64 x8), (.int .i64 x9)], Item.own v2 (x7 : (List Int)), Item.own v1 (x4 : (List (Int × (List Int)))), Item.own v47 (x51.1.2 : (List Int)), Item.own v46 (x50.1 : (List (Int × (List Int)))), Item.own v37 (x49 : (List (Int × (List Int) × Int × Int × Int))), Item.own v36 (x48 : (List Int)), Item.box b2 [(.int .i64 a4.1.1), u4, (.int .i64 a4.2.1), (.int .i64 a4.2.2)], Item.box b1 [u3, (.int .i64 a3.2)]] := hC124.front 10 rfl
                                          have hC126 : Ctx [] w0 _ [Item.box b9 [(.int .i64 x52.2.1.1.1), v48, (.int .i64 x52.2.1.2.1), (.int .i64 x52.2.1.2.2)], Item.own v48 (x52.2.1.1.2 : (List Int)), Item.own v42 (x52.1 : (List (Int × (List Int)))), Item.own v25 (x39.2.1.2 : (List Int)), Item.own v22 (x38.2 : (List (Int × (List Int)))), Item.box b7 [(.int .i64 x19.2.1.1.1), v25, (.int .i64 x19.2.1.2.1), (.int .i64 x19.2.1.2.2)], Item.box b3 [(.int .i64 x6), v2, (.int .i64 x8), (.int .i64 x9)], Item.own v2 (x7 : (List Int)), Item.own v1 (x4 : (List (Int × (List Int))))] := hC125.headN 9
                                          refine nrm_sub (l' := [(12, v1), (13, (ptr b3 0)), (14, (.int .i64 x5)), (19, v22), (20, (ptr b7 0)), (23, (.int .i64 x39.1)), (25, v42), (26, (ptr b9 0)), (27, (.int .i64 x52.2.2))]) ⟨rfl, rfl, rfl, rfl, rfl, rfl, rfl, rfl, rfl, trivial⟩ ?_
                                          exact ⟨v42, x52.1, x52.2.2, b9, x52.2.1.1.1, v48, x52.2.1.1.2, x52.2.1.2.1, x52.2.1.2.2, rfl, rfl, hC126⟩
                                      · rintro _ w56 ⟨v34, x42, x43, b8, x44, v35, x45, x46, x47, rfl, rfl, hC106⟩
                                        try dsimp only at hF
                                        refine W_seq ?_
                                        obtain ⟨r5, hr43, hF⟩ := bind_some hF
                                        refine W_cut (fun l w => ∃ x53 : Bool, x53 = r5 ∧ l = [(19, v22), (20, (ptr b7 0)), (23, (.int .i64 x39.1)), (191, (.bool x53))] ∧ Below w56.heap.size w56 w ∧ Ctx [] w0 w [Item.own v25 (x39.2.1.2 : (List Int)), Item.own v22 (x38.2 : (List (Int × (List Int)))), Item.box b7 [(.int .i64 x19.2.1.1.1), v25, (.int .i64 x19.2.1.2.1), (.int .i64 x19.2.1.2.2)]]) ?_ ?_
                                        · refine W_reg ?_
                                          refine WL_move rfl rfl ?_
                                          refine WL_move rfl rfl ?_
                                          obtain ⟨x54, hr44, hr43⟩ := bind_some hr43
                                          refine WL_call Try.call13 rfl rfl (c_Q_eqFactS x42 v34 ((hC106.ro 2 rfl).now (Keep.refl _ _)) x4 v1 ((hC106.ro 8 rfl).now (Keep.refl _ _)) x54 hr44) ?_
                                          intro _ w68 hv41
                                          obtain ⟨rfl, hB57⟩ := res_bool hv41
                                          have hC128 := hC106.grow hB57
                                          refine WL_not rfl rfl ?_
                                          refine WL_move rfl rfl ?_
                                          refine WL_fork (fun hc19 => ?_) (fun hc19 => ?_)
                                          · replace hr43 := ite_t hr43 hc19
                                            refine WL_guard_skip rfl rfl (by simp) rfl ?_
                                            refine WL_guard_skip rfl rfl (by simp) rfl ?_
                                            refine WL_guard_skip rfl rfl (by simp) rfl ?_
                                            refine WL_guard_skip rfl rfl (by simp) rfl ?_
                                            refine WL_pick_t rfl rfl rfl ?_
                                            refine WL_move rfl rfl ?_
                                            refine WL_guard_skip rfl rfl (by simp) rfl ?_
                                            refine WL_guard_skip rfl rfl (by simp) rfl ?_
                                            refine WL_guard_skip rfl rfl (by simp) rfl ?_
                                            refine WL_pick_t rfl rfl rfl ?_
                                            refine WL_nil ?_
                                            have hq29 := Option.some.inj hr43
                                            subst hq29
                                            have hC129 : Ctx [] w0 _ [Item.box b7 [(.int .i64 x19.2.1.1.1), v25, (.int .i64 x19.2.1.2.1), (.int .i64 x19.2.1.2.2)], Item.box b8 [(.int .i64 x44), v35, (.int .i64 x46), (.int .i64 x47)], Item.own v35 (x45 : (List Int)), Item.own v34 (x42 : (List (Int × (List Int)))), Item.own v25 (x39.2.1.2 : (List Int)), Item.own v22 (x38.2 : (List (Int × (List Int)))), Item.box b3 [(.int .i64 x6), v2, (.int .i64 x8), (.int .i64 x9)], Item.own v2 (x7 : (List Int)), Item.own v1 (x4 : (List (Int × (List Int))))] := hC128.front 5 rfl
                                            have hC130 : Ctx [] w0 _ [Item.own v22 (x38.2 : (List (Int × (List Int)))), Item.box b7 [(.int .i64 x19.2.1.1.1), v25, (.int .i64 x19.2.1.2.1), (.int .i64 x19.2.1.2.2)], Item.box b8 [(.int .i64 x44), v35, (.int .i64 x46), (.int .i64 x47)], Item.own v35 (x45 : (List Int)), Item.own v34 (x42 : (List (Int × (List Int)))), Item.own v25 (x39.2.1.2 : (List Int)), Item.box b3 [(.int .i64 x6), v2, (.int .i64 x8), (.int .i64 x9)], Item.own v2 (x7 : (List Int)), Item.own v1 (x4 : (List (Int × (List Int))))] := hC129.front 5 rfl
                                            have hC131 : Ctx [] w0 _ [Item.own v25 (x39.2.1.2 : (List Int)), Item.own v22 (x38.2 : (List (Int × (List Int)))), Item.box b7 [(.int .i64 x19.2.1.1.1), v25, (.int .i64 x19.2.1.2.1), (.int .i64 x19.2.1.2.2)], Item.box b8 [(.int .i64 x44), v35, (.int .i64 x46), (.int .i64 x47)], Item.own v35 (x45 : (List Int)), Item.own v34 (x42 : (List (Int × (List Int)))), Item.box b3 [(.int .i64 x6), v2, (.int .i64 x8), (.int .i64 x9)], Item.own v2 (x7 : (List Int)), Item.own v1 (x4 : (List (Int × (List Int))))] := hC130.front 5 rfl
                                            have hC132 : Ctx [] w0 _ [Item.own v25 (x39.2.1.2 : (List Int)), Item.own v22 (x38.2 : (List (Int × (List Int)))), Item.box b7 [(.int .i64 x19.2.1.1.1), v25, (.int .i64 x19.2.1.2.1), (.int .i64 x19.2.1.2.2)]] := hC131.headN 3
                                            refine nrm_sub (l' := [(19, v22), (20, (ptr b7 0)), (23, (.int .i64 x39.1)), (191, (.bool true))]) ⟨rfl, rfl, rfl, rfl, trivial⟩ ?_
                                            exact ⟨true, rfl, rfl, (Keep.of hB57).below, hC132⟩
                                          · replace hr43 := ite_f hr43 hc19
                                            refine WL_guard rfl rfl ?_
                                            refine WL_load_box_agg [(.int .i64 x44), v35, (.int .i64 x46), (.int .i64 x47)] hC128 0 rfl rfl rfl Try.isAgg37 Try.sizeOf37 rfl rfl ?_
                                            refine WL_guard rfl rfl ?_
                                            refine WL_load_box_agg [(.int .i64 x6), v2, (.int .i64 x8), (.int .i64 x9)] hC128 6 rfl rfl rfl Try.isAgg37 Try.sizeOf37 rfl rfl ?_
                                            obtain ⟨x55, hr45, hr43⟩ := bind_some hr43
                                            refine WL_guard rfl rfl ?_
                                            refine WL_call Try.call14 rfl rfl (c_Q_eqCursor ((x44, x45), x46, x47) v35 ((hC128.ro 1 rfl).now (Keep.refl _ _)) ((x6, x7), x8, x9) v2 ((hC128.ro 7 rfl).now (Keep.refl _ _)) x55 hr45) ?_
                                            intro _ w69 hv42
                                            obtain ⟨rfl, hB58⟩ := res_bool hv42
                                            have hC133 := hC128.grow hB58
                                            refine WL_guard rfl rfl ?_
                                            refine WL_not rfl rfl ?_
                                            refine WL_pick_f rfl rfl rfl ?_
                                            refine WL_move rfl rfl ?_
                                            refine WL_fork (fun hc20 => ?_) (fun hc20 => ?_)
                                            · replace hr43 := ite_t hr43 hc20
                                              refine WL_guard_skip rfl rfl (by simp) rfl ?_
                                              refine WL_guard_skip rfl rfl (by simp) rfl ?_
                                              refine WL_guard_skip rfl rfl (by simp) rfl ?_
                                              refine WL_pick_t rfl rfl rfl ?_
                                              refine WL_nil ?_
                                              have hq30 := Option.some.inj hr43
                                              subst hq30
                                              have hC134 : Ctx [] w0 _ [Item.box b7 [(.int .i64 x19.2.1.1.1), v25, (.int .i64 x19.2.1.2.1), (.int .i64 x19.2.1.2.2)], Item.box b8 [(.int .i64 x44), v35, (.int .i64 x46), (.int .i64 x47)], Item.own v35 (x45 : (List Int)), Item.own v34 (x42 : (List (Int × (List Int)))), Item.own v25 (x39.2.1.2 : (List Int)), Item.own v22 (x38.2 : (List (Int × (List Int)))), Item.box b3 [(.int .i64 x6), v2, (.int .i64 x8), (.int .i64 x9)], Item.own v2 (x7 : (List Int)), Item.own v1 (x4 : (List (Int × (List Int))))] := hC133.front 5 rfl
                                              have hC135 : Ctx [] w0 _ [Item.own v22 (x38.2 : (List (Int × (List Int)))), Item.box b7 [(.int .i64 x19.2.1.1.1), v25, (.int .i64 x19.2.1.2.1), (.int .i64 x19.2.1.2.2)], Item.box b8 [(.int .i64 x44), v35, (.int .i64 x46), (.int .i64 x47)], Item.own v35 (x45 : (List Int)), Item.own v34 (x42 : (List (Int × (List Int)))), Item.own v25 (x39.2.1.2 : (List Int)), Item.box b3 [(.int .i64 x6), v2, (.int .i64 x8), (.int .i64 x9)], Item.own v2 (x7 : (List Int)), Item.own v1 (x4 : (List (Int × (List Int))))] := hC134.front 5 rfl
                                              have hC136 : Ctx [] w0 _ [Item.own v25 (x39.2.1.2 : (List Int)), Item.own v22 (x38.2 : (List (Int × (List Int)))), Item.box b7 [(.int .i64 x19.2.1.1.1), v25, (.int .i64 x19.2.1.2.1), (.int .i64 x19.2.1.2.2)], Item.box b8 [(.int .i64 x44), v35, (.int .i64 x46), (.int .i64 x47)], Item.own v35 (x45 : (List Int)), Item.own v34 (x42 : (List (Int × (List Int)))), Item.box b3 [(.int .i64 x6), v2, (.int .i64 x8), (.int .i64 x9)], Item.own v2 (x7 : (List Int)), Item.own v1 (x4 : (List (Int × (List Int))))] := hC135.front 5 rfl
                                              have hC137 : Ctx [] w0 _ [Item.own v25 (x39.2.1.2 : (List Int)), Item.own v22 (x38.2 : (List (Int × (List Int)))), Item.box b7 [(.int .i64 x19.2.1.1.1), v25, (.int .i64 x19.2.1.2.1), (.int .i64 x19.2.1.2.2)]] := hC136.headN 3
                                              refine nrm_sub (l' := [(19, v22), (20, (ptr b7 0)), (23, (.int .i64 x39.1)), (191, (.bool true))]) ⟨rfl, rfl, rfl, rfl, trivial⟩ ?_
                                              exact ⟨true, rfl, rfl, ((Keep.of hB57).then hB58).below, hC137⟩
                                            · replace hr43 := ite_f hr43 hc20
                                              refine WL_guard rfl rfl ?_
                                              refine WL_move rfl rfl ?_
                                              refine WL_guard rfl rfl ?_
                                              refine WL_move rfl rfl ?_
                                              refine WL_guard rfl rfl ?_
                                              refine WL_neq rfl rfl rfl ?_
                                              refine WL_pick_f rfl rfl rfl ?_
                                              refine WL_nil ?_
                                              have hq31 := Option.some.inj hr43
                                              subst hq31
                                              have hC138 : Ctx [] w0 _ [Item.box b7 [(.int .i64 x19.2.1.1.1), v25, (.int .i64 x19.2.1.2.1), (.int .i64 x19.2.1.2.2)], Item.box b8 [(.int .i64 x44), v35, (.int .i64 x46), (.int .i64 x47)], Item.own v35 (x45 : (List Int)), Item.own v34 (x42 : (List (Int × (List Int)))), Item.own v25 (x39.2.1.2 : (List Int)), Item.own v22 (x38.2 : (List (Int × (List Int)))), Item.box b3 [(.int .i64 x6), v2, (.int .i64 x8), (.int .i64 x9)], Item.own v2 (x7 : (List Int)), Item.own v1 (x4 : (List (Int × (List Int))))] := hC133.front 5 rfl
                                              have hC139 : Ctx [] w0 _ [Item.own v22 (x38.2 : (List (Int × (List Int)))), Item.box b7 [(.int .i64 x19.2.1.1.1), v25, (.int .i64 x19.2.1.2.1), (.int .i64 x19.2.1.2.2)], Item.box b8 [(.int .i64 x44), v35, (.int .i64 x46), (.int .i64 x47)], Item.own v35 (x45 : (List Int)), Item.own v34 (x42 : (List (Int × (List Int)))), Item.own v25 (x39.2.1.2 : (List Int)), Item.box b3 [(.int .i64 x6), v2, (.int .i64 x8), (.int .i64 x9)], Item.own v2 (x7 : (List Int)), Item.own v1 (x4 : (List (Int × (List Int))))] := hC138.front 5 rfl
                                              have hC140 : Ctx [] w0 _ [Item.own v25 (x39.2.1.2 : (List Int)), Item.own v22 (x38.2 : (List (Int × (List Int)))), Item.box b7 [(.int .i64 x19.2.1.1.1), v25, (.int .i64 x19.2.1.2.1), (.int .i64 x19.2.1.2.2)], Item.box b8 [(.int .i64 x44), v35, (.int .i64 x46), (.int .i64 x47)], Item.own v35 (x45 : (List Int)), Item.own v34 (x42 : (List (Int × (List Int)))), Item.box b3 [(.int .i64 x6), v2, (.int .i64 x8), (.int .i64 x9)], Item.own v2 (x7 : (List Int)), Item.own v1 (x4 : (List (Int × (List Int))))] := hC139.front 5 rfl
                                              have hC141 : Ctx [] w0 _ [Item.own v25 (x39.2.1.2 : (List Int)), Item.own v22 (x38.2 : (List (Int × (List Int)))), Item.box b7 [(.int .i64 x19.2.1.1.1), v25, (.int .i64 x19.2.1.2.1), (.int .i64 x19.2.1.2.2)]] := hC140.headN 3
                                              refine nrm_sub (l' := [(19, v22), (20, (ptr b7 0)), (23, (.int .i64 x39.1)), (191, (.bool (!decide (x43 = x5))))]) ⟨rfl, rfl, rfl, rfl, trivial⟩ ?_
                                              exact ⟨(!decide (x43 = x5)), rfl, rfl, ((Keep.of hB57).then hB58).below, hC141⟩
                                        · rintro _ w67 ⟨x53, rfl, rfl, hB56, hC127⟩
                                          try dsimp only at hF
                                          refine W_cond rfl (fun hc21 => ?_) (fun hc21 => ?_)
                                          · replace hF := ite_t hF hc21
                                            refine W_seq_reg ?_
                                            refine WL_assign rfl rfl ?_
                                            refine WL_nil ?_
                                            refine W_ret ?_
                                            refine nrm_ret ?_
                                            have hq32 := Option.some.inj hF
                                            subst hq32
                                            refine fn_ret1 rfl rfl ?_
                                            exact ⟨_, rfl, bool_res hC127 _⟩
                                          · replace hF := ite_f hF hc21
                                            refine W_skip ?_
                                            refine nrm_normal ?_
                                            refine W_seq_reg ?_
                                            refine WL_assign rfl rfl ?_
                                            refine WL_nil ?_
                                            refine W_seq_reg ?_
                                            refine WL_move rfl rfl ?_
                                            refine WL_move rfl rfl ?_
                                            obtain ⟨x56, hr46, hF⟩ := bind_some hF
                                            refine WL_call Try.call23 rfl rfl (c_Q_heldFactS x38.2 v22 ((hC127.ro 1 rfl).now (Keep.refl _ _)) 1 x56 hr46) ?_
                                            intro _ w70 hv43
                                            obtain ⟨rfl, hB59⟩ := res_int hv43
                                            have hC142 := hC127.grow hB59
                                            refine WL_assign rfl rfl ?_
                                            refine WL_nil ?_
                                            refine W_seq ?_
                                            refine W_seq_reg ?_
                                            refine WL_move rfl rfl ?_
                                            refine WL_lss rfl rfl rfl ?_
                                            refine WL_nil ?_
                                            refine W_cond rfl (fun hc22 => ?_) (fun hc22 => ?_)
                                            · replace hF := ite_t hF hc22
                                              refine W_seq_reg ?_
                                              refine WL_assign rfl rfl ?_
                                              refine WL_nil ?_
                                              refine W_ret ?_
                                              refine nrm_ret ?_
                                              have hq33 := Option.some.inj hF
                                              subst hq33
                                              refine fn_ret1 rfl rfl ?_
                                              exact ⟨_, rfl, bool_res hC142 _⟩
                                            · replace hF := ite_f hF hc22
                                              refine W_skip ?_
                                              refine nrm_normal ?_
                                              refine W_seq_reg ?_
                                              refine WL_load_box_agg [(.int .i64 x19.2.1.1.1), v25, (.int .i64 x19.2.1.2.1), (.int .i64 x19.2.1.2.2)] hC142 2 rfl rfl rfl Try.isAgg37 Try.sizeOf37 rfl rfl ?_
                                              refine WL_move rfl rfl ?_
                                              obtain ⟨x57, hr47, hF⟩ := bind_some hF
                                              refine WL_call Try.call24 rfl rfl (c_Q_heldCursor ((x19.2.1.1.1, x39.2.1.2), x19.2.1.2.1, x19.2.1.2.2) v25 ((hC142.ro 0 rfl).now (Keep.refl _ _)) x56 x57 hr47) ?_
                                              intro _ w71 hv44
                                              obtain ⟨rfl, hB60⟩ := res_int hv44
                                              have hC143 := hC142.grow hB60
                                              refine WL_assign rfl rfl ?_
                                              refine WL_nil ?_
                                              refine W_seq ?_
                                              refine W_seq_reg ?_
                                              refine WL_move rfl rfl ?_
                                              refine WL_lss rfl rfl rfl ?_
                                              refine WL_nil ?_
                                              refine W_cond rfl (fun hc23 => ?_) (fun hc23 => ?_)
                                              · replace hF := ite_t hF hc23
                                                refine W_seq_reg ?_
                                                refine WL_assign rfl rfl ?_
                                                refine WL_nil ?_
                                                refine W_ret ?_
                                                refine nrm_ret ?_
                                                have hq34 := Option.some.inj hF
                                                subst hq34
                                                refine fn_ret1 rfl rfl ?_
                                                exact ⟨_, rfl, bool_res hC143 _⟩
                                              · replace hF := ite_f hF hc23
                                                refine W_skip ?_
                                                refine nrm_normal ?_
                                                refine W_seq ?_
                                                refine W_seq_reg ?_
                                                refine WL_move rfl rfl ?_
                                                refine WL_move rfl rfl ?_
                                                refine WL_neq rfl rfl rfl ?_
                                                refine WL_nil ?_
                                                refine W_cond rfl (fun hc24 => ?_) (fun hc24 => ?_)
                                                · replace hF := ite_t hF hc24
                                                  refine W_seq_reg ?_
                                                  refine WL_assign rfl rfl ?_
                                                  refine WL_nil ?_
                                                  refine W_ret ?_
                                                  refine nrm_ret ?_
                                                  have hq35 := Option.some.inj hF
                                                  subst hq35
                                                  refine fn_ret1 rfl rfl ?_
                                                  exact ⟨_, rfl, bool_res hC143 _⟩
                                                · replace hF := ite_f hF hc24
                                                  refine W_skip ?_
                                                  refine nrm_normal ?_
                                                  refine W_seq_reg ?_
                                                  refine WL_assign rfl rfl ?_
                                                  refine WL_nil ?_
                                                  refine W_ret ?_
                                                  have hq36 := Option.some.inj hF
                                                  subst hq36
                                                  refine fn_ret1 rfl rfl ?_
                                                  exact ⟨_, rfl, bool_res hC143 _⟩

end Go.Gx.Px
