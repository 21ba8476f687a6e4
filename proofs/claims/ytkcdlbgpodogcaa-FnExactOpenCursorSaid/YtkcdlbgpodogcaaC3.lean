/- The contracts of the Go functions against the pure functions, printed by program. Conditions: each says them. -/
import Derived.Test.YtkcdlbgpodogcaaC2
set_option linter.unusedVariables false
set_option linter.unusedSimpArgs false
set_option maxRecDepth 100000
set_option maxHeartbeats 4000000
namespace Go.Gx.Px
open Go.Proofs Go.RowKit

theorem c_Q_FnExactOpenCursor {w0 : World} (a1 : (List Int)) (u1 : Value) (g1 : RO [] w0 u1 a1) (a2 : (List (Int × (List Int) × Int × Int × Int))) (u2 : Value) (g2 : RO [] w0 u2 a2) (a3 : ((List (Int × (List Int))) × Int)) (u3 : Value) (g3 : RO [] w0 u3 a3.1) (a4 : (Int × (List Int))) (u4 : Value) (g4 : RO [] w0 u4 a4.2) (rr : Bool) (hF : Q.FnExactOpenCursor a1 a2 a3 a4 = some rr) :
    Calls Try.prog 11 [u1, u2, (.agg #[u3, (.int .i64 a3.2)]), (.agg #[(.int .i64 a4.1), u4])].toArray w0 fun e w' => ∃ v, e = .returned v ∧ Res w0 rr v w' := by
  refine calls_of_W Try.func11 rfl rfl ?_
  have hC0 := Ctx.start w0
  unfold Q.FnExactOpenCursor at hF
  refine W_seq_reg ?_
  refine WL_box (cs := [u3, (.int .i64 a3.2)]) hC0 rfl rfl rfl (fun b1 w1 hC1 hB1 => ?_)
  refine WL_box (cs := [(.int .i64 a4.1), u4]) hC1 rfl rfl rfl (fun b2 w2 hC2 hB2 => ?_)
  refine WL_assign rfl rfl ?_
  refine WL_nil ?_
  refine W_seq ?_
  refine W_seq_reg ?_
  refine WL_move rfl rfl ?_
  refine WL_len Try.underlying22 g1 rfl rfl ?_
  refine WL_gtr rfl rfl rfl ?_
  refine WL_nil ?_
  refine W_cond rfl (fun hc1 => ?_) (fun hc1 => ?_)
  · replace hF := ite_t hF hc1
    refine W_seq_reg ?_
    refine WL_assign rfl rfl ?_
    refine WL_nil ?_
    refine W_ret ?_
    refine nrm_ret ?_
    have hq1 := Option.some.inj hF
    subst hq1
    refine fn_ret1 rfl rfl ?_
    exact ⟨_, rfl, bool_res hC2 _⟩
  · replace hF := ite_f hF hc1
    refine W_skip ?_
    refine nrm_normal ?_
    refine W_seq_reg ?_
    refine WL_assign rfl rfl ?_
    refine WL_nil ?_
    refine W_seq_reg ?_
    refine WL_move rfl rfl ?_
    refine WL_move rfl rfl ?_
    obtain ⟨x1, hr1, hF⟩ := bind_some hF
    refine WL_call Try.call12 rfl rfl (c_Q_szMethodS a2 u2 (g2.now hC2.keep) 1048576 x1 hr1) ?_
    intro _ w3 hv1
    obtain ⟨rfl, hB3⟩ := res_int hv1
    have hC3 := hC2.grow hB3
    refine WL_assign rfl rfl ?_
    refine WL_nil ?_
    refine W_seq ?_
    refine W_seq_reg ?_
    refine WL_move rfl rfl ?_
    refine WL_lss rfl rfl rfl ?_
    refine WL_nil ?_
    refine W_cond rfl (fun hc2 => ?_) (fun hc2 => ?_)
    · replace hF := ite_t hF hc2
      refine W_seq_reg ?_
      refine WL_assign rfl rfl ?_
      refine WL_nil ?_
      refine W_ret ?_
      refine nrm_ret ?_
      have hq2 := Option.some.inj hF
      subst hq2
      refine fn_ret1 rfl rfl ?_
      exact ⟨_, rfl, bool_res hC3 _⟩
    · replace hF := ite_f hF hc2
      refine W_skip ?_
      refine nrm_normal ?_
      refine W_seq_reg ?_
      refine WL_load_box_agg [u3, (.int .i64 a3.2)] hC3 1 rfl rfl rfl Try.isAgg65 Try.sizeOf65 rfl rfl ?_
      refine WL_move rfl rfl ?_
      obtain ⟨x2, hr2, hF⟩ := bind_some hF
      refine WL_call Try.call41 rfl rfl (c_Q_szSource (a3.1, a3.2) u3 (g3.now hC3.keep) x1 x2 hr2) ?_
      intro _ w4 hv2
      obtain ⟨rfl, hB4⟩ := res_int hv2
      have hC4 := hC3.grow hB4
      refine WL_assign rfl rfl ?_
      refine WL_nil ?_
      refine W_seq ?_
      refine W_seq_reg ?_
      refine WL_move rfl rfl ?_
      refine WL_lss rfl rfl rfl ?_
      refine WL_nil ?_
      refine W_cond rfl (fun hc3 => ?_) (fun hc3 => ?_)
      · replace hF := ite_t hF hc3
        refine W_seq_reg ?_
        refine WL_assign rfl rfl ?_
        refine WL_nil ?_
        refine W_ret ?_
        refine nrm_ret ?_
        have hq3 := Option.some.inj hF
        subst hq3
        refine fn_ret1 rfl rfl ?_
        exact ⟨_, rfl, bool_res hC4 _⟩
      · replace hF := ite_f hF hc3
        refine W_skip ?_
        refine nrm_normal ?_
        refine W_seq_reg ?_
        refine WL_load_box_agg [(.int .i64 a4.1), u4] hC4 0 rfl rfl rfl Try.isAgg25 Try.sizeOf25 rfl rfl ?_
        refine WL_move rfl rfl ?_
        obtain ⟨x3, hr3, hF⟩ := bind_some hF
        refine WL_call Try.call59 rfl rfl (c_Q_szAccess (a4.1, a4.2) u4 (g4.now hC4.keep) x2 x3 hr3) ?_
        intro _ w5 hv3
        obtain ⟨rfl, hB5⟩ := res_int hv3
        have hC5 := hC4.grow hB5
        refine WL_assign rfl rfl ?_
        refine WL_nil ?_
        refine W_seq ?_
        refine W_seq_reg ?_
        refine WL_move rfl rfl ?_
        refine WL_lss rfl rfl rfl ?_
        refine WL_nil ?_
        refine W_cond rfl (fun hc4 => ?_) (fun hc4 => ?_)
        · replace hF := ite_t hF hc4
          refine W_seq_reg ?_
          refine WL_assign rfl rfl ?_
          refine WL_nil ?_
          refine W_ret ?_
          refine nrm_ret ?_
          have hq4 := Option.some.inj hF
          subst hq4
          refine fn_ret1 rfl rfl ?_
          exact ⟨_, rfl, bool_res hC5 _⟩
        · replace hF := ite_f hF hc4
          refine W_skip ?_
          refine nrm_normal ?_
          obtain ⟨r1, hr4, hF⟩ := bind_some hF
          refine W_cut (fun l w => ∃ x4 : Bool, ∃ b3 : Nat, ∃ x5 : Int, ∃ v1 : Value, ∃ x6 : (List Int), ∃ x7 : Int, ∃ x8 : Int, (x4, x5, x6, x7, x8) = r1 ∧ l = [(0, u1), (1, u2), (6, (ptr b1 0)), (7, (ptr b2 0)), (10, (ptr b3 0)), (11, (.bool x4))] ∧ Ctx [] w0 w [Item.box b3 [(.int .i64 x5), v1, (.int .i64 x7), (.int .i64 x8)], Item.own v1 (x6 : (List Int)), Item.box b2 [(.int .i64 a4.1), u4], Item.box b1 [u3, (.int .i64 a3.2)]]) ?_ ?_
          · refine W_drawn 15 rfl hmix (fun w7 hB7 => ?_)
            have hC7 := hC5.grow hB7
            refine WA_take 0 rfl (by kernel_rfl) (by kernel_rfl) (by kernel_rfl) rfl (fl_move rfl) ?_
            refine WL_move rfl rfl ?_
            refine WL_nil ?_
            refine WA_take 2 rfl (by kernel_rfl) (by kernel_rfl) (by kernel_rfl) rfl (fl_move rfl) ?_
            refine WL_move rfl rfl ?_
            refine WL_nil ?_
            obtain ⟨x9, hr5, hr4⟩ := bind_some hr4
            obtain ⟨x10, hr6, hr4⟩ := bind_some hr4
            obtain ⟨x11, hr7, hr4⟩ := bind_some hr4
            obtain ⟨x12, hr8, hr4⟩ := bind_some hr4
            obtain ⟨x13, hr9, hr4⟩ := bind_some hr4
            refine WA.sub (l' := [(0, u1), (1, u2), (2, (.agg #[u3, (.int .i64 a3.2)])), (3, (.agg #[(.int .i64 a4.1), u4])), (6, (ptr b1 0)), (7, (ptr b2 0)), (8, (.bool false)), (9, (.int .i64 x3)), (23, u1), (24, (.int .i64 (List.length a1 : Int))), (25, (.bool (decide (1048576 < (List.length a1 : Int))))), (26, u2), (27, (.int .i64 1048576)), (28, (.int .i64 x1)), (29, (.int .i64 x1)), (30, (.bool (decide (x1 < 0)))), (31, (.agg #[u3, (.int .i64 a3.2)])), (32, (.int .i64 x1)), (33, (.int .i64 x2)), (34, (.int .i64 x2)), (35, (.bool (decide (x2 < 0)))), (36, (.agg #[(.int .i64 a4.1), u4])), (37, (.int .i64 x2)), (38, (.int .i64 x3)), (39, (.int .i64 x3)), (40, (.bool (decide (x3 < 0)))), (42, u1), (44, u2)]) ?_ ⟨rfl, rfl, rfl, rfl, rfl, rfl, rfl, rfl, rfl, rfl, rfl, rfl, rfl, rfl, rfl, rfl, rfl, rfl, rfl, rfl, rfl, rfl, rfl, rfl, rfl, rfl, rfl, rfl, trivial⟩
            refine WA_postsO [⟨1, [], fun vs => PW.own x9, []⟩, ⟨3, [], fun vs => PW.own x10, []⟩, ⟨4, [], fun vs => PW.val (.agg #[u3, (.int .i64 a3.2)]), []⟩, ⟨5, [], fun vs => PW.own x11, []⟩, ⟨6, [], fun vs => PW.val (.agg #[(.int .i64 a4.1), u4]), []⟩, ⟨7, [], fun vs => PW.own x12, []⟩, ⟨8, [], fun vs => PW.own2 (x13.1 : ((Int × (List Int)) × Int × Int)) (x13.2 : Bool), []⟩, ⟨9, [50], fun vs => PW.val (vs.getD 0 undef), []⟩, ⟨10, [41], fun vs => PW.comp (vs.getD 0 undef) 0, []⟩, ⟨11, [41], fun vs => PW.comp (vs.getD 0 undef) 1, []⟩, ⟨12, [], fun vs => PW.box [(.int .i64 0), (.slice none 0 0), (.int .i64 0), (.int .i64 0)], []⟩] [[], [], [], [4], [], [6], [1, 3, 5, 7], [8], [8, 9], [8, 9], []] [11] 2 rfl (by kernel_rfl) (by kernel_rfl) ?_ ⟨?_, ?_, trivial⟩
            · refine StepsE_cons rfl ?_ ?_
              · intro w14 hB14
                refine DepsE_nil ?_
                refine ⟨_, rfl, ?_⟩
                refine WL_call Try.call15 rfl rfl (c_Q_toIntS a1 u1 (g1.now (hC7.keep.then hB14)) x9 hr5) ?_
                rintro v2 w8 ⟨hB8, F1, hv4, hn1, hb1⟩
                refine WL_nil ?_
                exact FinE_own hB8 rfl rfl hv4 hn1 hb1 (Val.inh hv4)
              refine StepsE_cons rfl ?_ ?_
              · intro w14 hB14
                refine DepsE_nil ?_
                refine ⟨_, rfl, ?_⟩
                refine WL_call Try.call16 rfl rfl (c_Q_toMethodS a2 u2 (g2.now (hC7.keep.then hB14)) x10 hr6) ?_
                rintro v3 w9 ⟨hB9, F2, hv5, hn2, hb2⟩
                refine WL_nil ?_
                exact FinE_own hB9 rfl rfl hv5 hn2 hb2 (Val.inh hv5)
              refine StepsE_cons rfl ?_ ?_
              · intro w14 hB14
                refine DepsE_nil ?_
                refine ⟨_, rfl, ?_⟩
                refine WL_load_box_agg [u3, (.int .i64 a3.2)] (hC7.grow hB14) 1 rfl rfl rfl Try.isAgg65 Try.sizeOf65 rfl rfl ?_
                refine WL_nil ?_
                exact FinE_val (Below.refl _ _) rfl rfl ⟨rfl, rfl⟩
              refine StepsE_cons rfl ?_ ?_
              · intro w14 hB14
                refine DepsE_cons rfl rfl rfl ?_
                rintro _ _ ⟨rfl, rfl⟩ _
                refine DepsE_nil ?_
                refine ⟨_, rfl, ?_⟩
                refine WL_call Try.call44 rfl rfl (c_Q_toSource (a3.1, a3.2) u3 (g3.now (hC7.keep.then hB14)) x11 hr7) ?_
                rintro v4 w10 ⟨hB10, F3, hv6, hn3, hb3⟩
                refine WL_nil ?_
                exact FinE_own hB10 rfl rfl hv6 hn3 hb3 (Val.inh hv6)
              refine StepsE_cons rfl ?_ ?_
              · intro w14 hB14
                refine DepsE_nil ?_
                refine ⟨_, rfl, ?_⟩
                refine WL_load_box_agg [(.int .i64 a4.1), u4] (hC7.grow hB14) 0 rfl rfl rfl Try.isAgg25 Try.sizeOf25 rfl rfl ?_
                refine WL_nil ?_
                exact FinE_val (Below.refl _ _) rfl rfl ⟨rfl, rfl⟩
              refine StepsE_cons rfl ?_ ?_
              · intro w14 hB14
                refine DepsE_cons rfl rfl rfl ?_
                rintro _ _ ⟨rfl, rfl⟩ _
                refine DepsE_nil ?_
                refine ⟨_, rfl, ?_⟩
                refine WL_call Try.call61 rfl rfl (c_Q_toAccess (a4.1, a4.2) u4 (g4.now (hC7.keep.then hB14)) x12 hr8) ?_
                rintro v6 w11 ⟨hB11, F4, hv7, hn4, hb4⟩
                refine WL_nil ?_
                exact FinE_own hB11 rfl rfl hv7 hn4 hb4 (Val.inh hv7)
              refine StepsE_cons rfl ?_ ?_
              · intro w14 hB14
                refine DepsE_cons rfl rfl rfl ?_
                intro v2 F1 hv4 _
                refine DepsE_cons rfl rfl rfl ?_
                intro v3 F2 hv5 _
                refine DepsE_cons rfl rfl rfl ?_
                intro v4 F3 hv6 _
                obtain ⟨v5, rfl, h1⟩ := ro_st73 (ro_of_own hv6)
                refine DepsE_cons rfl rfl rfl ?_
                intro v6 F4 hv7 _
                obtain ⟨v7, rfl, h2⟩ := ro_st35 (ro_of_own hv7)
                refine DepsE_nil ?_
                refine ⟨_, rfl, ?_⟩
                refine WL_call Try.call60 rfl rfl (c_S_OpenCursor x9 v2 (ro_of_own hv4) x10 v3 (ro_of_own hv5) x11 v5 (h1.now (Keep.refl _ _)) x12 v7 (h2.now (Keep.refl _ _)) x13 hr9) ?_
                rintro _ w12 ⟨hB12, v8, v9, F5, F6, rfl, hv8, hv9, hn5, hb5⟩
                refine WL_nil ?_
                exact FinE_own (F := F5 ++ F6) hB12 rfl rfl ⟨_, _, _, _, rfl, rfl, hv8, hv9⟩ (by simpa using hn5) (fun b h => hb5 b (by simpa using h)) (fun b h => by simp only [List.mem_append] at h; rcases h with h | h <;> first | exact Val.inh hv8 b h | exact Val.inh hv9 b h)
              refine StepsE_cons rfl ?_ ?_
              · intro w14 hB14
                refine DepsE_cons rfl rfl rfl ?_
                rintro _ _ ⟨v8, v9, F5, F6, rfl, rfl, hv8, hv9⟩ _
                obtain ⟨rfl, rfl⟩ := val_bool hv9
                obtain ⟨v10, rfl, h3⟩ := ro_st97 (ro_of_own hv8)
                refine DepsE_nil ?_
                refine ⟨_, rfl, ?_⟩
                refine WL_move rfl rfl ?_
                refine WL_nil ?_
                exact FinE_val (Below.refl _ _) rfl rfl ⟨rfl, rfl⟩
              refine StepsE_cons rfl ?_ ?_
              · intro w14 hB14
                refine DepsE_cons rfl rfl rfl ?_
                rintro _ _ ⟨v8, v9, F5, F6, rfl, rfl, hv8, hv9⟩ _
                obtain ⟨rfl, rfl⟩ := val_bool hv9
                obtain ⟨v10, rfl, h3⟩ := ro_st97 (ro_of_own hv8)
                refine DepsE_cons rfl rfl rfl ?_
                rintro _ _ ⟨rfl, rfl⟩ _
                refine DepsE_nil ?_
                refine ⟨_, rfl, ?_⟩
                refine WL_extract rfl rfl rfl ?_
                refine WL_nil ?_
                exact FinE_val (Below.refl _ _) rfl rfl ⟨⟨_, rfl, rfl⟩, rfl⟩
              refine StepsE_cons rfl ?_ ?_
              · intro w14 hB14
                refine DepsE_cons rfl rfl rfl ?_
                rintro _ _ ⟨v8, v9, F5, F6, rfl, rfl, hv8, hv9⟩ _
                obtain ⟨rfl, rfl⟩ := val_bool hv9
                obtain ⟨v10, rfl, h3⟩ := ro_st97 (ro_of_own hv8)
                refine DepsE_cons rfl rfl rfl ?_
                rintro _ _ ⟨rfl, rfl⟩ _
                refine DepsE_nil ?_
                refine ⟨_, rfl, ?_⟩
                refine WL_extract rfl rfl rfl ?_
                refine WL_nil ?_
                exact FinE_val (Below.refl _ _) rfl rfl ⟨⟨_, rfl, rfl⟩, rfl⟩
              refine StepsE_cons rfl ?_ ?_
              · intro w14 hB14
                refine DepsE_nil ?_
                refine ⟨_, rfl, ?_⟩
                refine WL_alloc (Ctx.start _) zero97 rfl rfl (fun b4 w13 hC8 hB13 => ?_)
                refine WL_nil ?_
                exact FinE_ctx hC8 rfl rfl (fun F h => ⟨b4, rfl, h⟩)
              exact StepsE_nil
            · intro g' hg'
              obtain rfl : g' = 2 := hg'
              intro w15 hB15
              refine AllE_cons rfl rfl rfl ?_
              intro v2 F1 hv4
              refine AllE_cons rfl rfl rfl ?_
              intro v3 F2 hv5
              refine AllE_cons rfl rfl rfl ?_
              rintro _ _ ⟨rfl, rfl⟩
              refine AllE_cons rfl rfl rfl ?_
              intro v4 F3 hv6
              refine AllE_cons rfl rfl rfl ?_
              rintro _ _ ⟨rfl, rfl⟩
              refine AllE_cons rfl rfl rfl ?_
              intro v6 F4 hv7
              refine AllE_cons rfl rfl rfl ?_
              rintro _ _ ⟨v8, v9, F5, F6, rfl, rfl, hv8, hv9⟩
              obtain ⟨rfl, rfl⟩ := val_bool hv9
              refine AllE_cons rfl rfl rfl ?_
              rintro _ _ ⟨rfl, rfl⟩
              refine AllE_cons rfl rfl rfl ?_
              rintro _ _ ⟨⟨_, hx1, hx2⟩, rfl⟩
              obtain rfl := Value.tuple.inj hx1
              obtain rfl := Option.some.inj (show (some v8 : Option Value) = some _ from hx2)
              refine AllE_cons rfl rfl rfl ?_
              rintro _ _ ⟨⟨_, hx3, hx4⟩, rfl⟩
              obtain rfl := Value.tuple.inj hx3
              obtain rfl := Option.some.inj (show (some (.bool x13.2) : Option Value) = some _ from hx4)
              refine AllE_cons rfl rfl rfl ?_
              rintro _ F7 ⟨b4, rfl, hv10⟩
              refine AllE_nil ?_
              intro hn6 hb6
              have hC9 := hC7.pushL hB15 (Bs := [Item.box b4 [(.int .i64 0), (.slice none 0 0), (.int .i64 0), (.int .i64 0)], Item.own v8 (x13.1 : ((Int × (List Int)) × Int × Int)), Item.own v6 (x12 : (Int × (List Int))), Item.own v4 (x11 : ((List (Int × (List Int))) × Int)), Item.own v3 (x10 : (List (Int × (List Int) × Int × Int × Int))), Item.own v2 (x9 : (List Int))]) (Fs := [F7, F5, F4, F3, F2, F1]) ⟨F7, _, rfl, hv10, F5, _, rfl, hv8, F4, _, rfl, hv7, F3, _, rfl, hv6, F2, _, rfl, hv5, F1, _, rfl, hv4, rfl⟩ (by simpa using hn6) (fun b h => (hb6 b (by simpa using h)).1)
              have hC10 : Ctx [] w0 _ [Item.own v4 (x11 : ((List (Int × (List Int))) × Int)), Item.box b4 [(.int .i64 0), (.slice none 0 0), (.int .i64 0), (.int .i64 0)], Item.own v8 (x13.1 : ((Int × (List Int)) × Int × Int)), Item.own v6 (x12 : (Int × (List Int))), Item.own v3 (x10 : (List (Int × (List Int) × Int × Int × Int))), Item.own v2 (x9 : (List Int)), Item.box b2 [(.int .i64 a4.1), u4], Item.box b1 [u3, (.int .i64 a3.2)]] := hC9.front 3 rfl
              obtain ⟨v11, rfl, hC11⟩ := st73_own hC10
              have hC12 : Ctx [] w0 _ [Item.own v6 (x12 : (Int × (List Int))), Item.own v11 (x11.1 : (List (Int × (List Int)))), Item.box b4 [(.int .i64 0), (.slice none 0 0), (.int .i64 0), (.int .i64 0)], Item.own v8 (x13.1 : ((Int × (List Int)) × Int × Int)), Item.own v3 (x10 : (List (Int × (List Int) × Int × Int × Int))), Item.own v2 (x9 : (List Int)), Item.box b2 [(.int .i64 a4.1), u4], Item.box b1 [u3, (.int .i64 a3.2)]] := hC11.front 3 rfl
              obtain ⟨v12, rfl, hC13⟩ := st35_own hC12
              have hC14 : Ctx [] w0 _ [Item.own v8 (x13.1 : ((Int × (List Int)) × Int × Int)), Item.own v12 (x12.2 : (List Int)), Item.own v11 (x11.1 : (List (Int × (List Int)))), Item.box b4 [(.int .i64 0), (.slice none 0 0), (.int .i64 0), (.int .i64 0)], Item.own v3 (x10 : (List (Int × (List Int) × Int × Int × Int))), Item.own v2 (x9 : (List Int)), Item.box b2 [(.int .i64 a4.1), u4], Item.box b1 [u3, (.int .i64 a3.2)]] := hC13.front 3 rfl
              obtain ⟨v13, rfl, hC15⟩ := st97_own hC14
              refine WA_one 13 (by kernel_rfl) rfl ?_
              refine WL_store_box_agg (cs' := [(.int .i64 x13.1.1.1), v13, (.int .i64 x13.1.2.1), (.int .i64 x13.1.2.2)]) (new := [(.int .i64 x13.1.1.1), v13, (.int .i64 x13.1.2.1), (.int .i64 x13.1.2.2)]) hC15 3 rfl rfl (by intro v hv; simp only [List.mem_cons, List.not_mem_nil, or_false] at hv; rcases hv with rfl | rfl | rfl | rfl; exact rfl; exact (ro_one (hC15.ro 0 rfl)); exact rfl; exact rfl) rfl Try.sizeOf97 rfl rfl (fun w16 hC16 => ?_)
              try dsimp only [List.set] at hC16
              refine WL_nil ?_
              refine WA_take 14 rfl (by kernel_rfl) (by kernel_rfl) (by kernel_rfl) rfl (fl_assign rfl) ?_
              refine WL_assign rfl rfl ?_
              refine WL_nil ?_
              refine WA_done (by kernel_rfl) ?_
              have hq5 := Option.some.inj hr4
              subst hq5
              have hC17 : Ctx [] w0 _ [Item.box b1 [u3, (.int .i64 a3.2)], Item.own v13 (x13.1.1.2 : (List Int)), Item.own v12 (x12.2 : (List Int)), Item.own v11 (x11.1 : (List (Int × (List Int)))), Item.box b4 [(.int .i64 x13.1.1.1), v13, (.int .i64 x13.1.2.1), (.int .i64 x13.1.2.2)], Item.own v3 (x10 : (List (Int × (List Int) × Int × Int × Int))), Item.own v2 (x9 : (List Int)), Item.box b2 [(.int .i64 a4.1), u4]] := hC16.front 7 rfl
              have hC18 : Ctx [] w0 _ [Item.box b2 [(.int .i64 a4.1), u4], Item.box b1 [u3, (.int .i64 a3.2)], Item.own v13 (x13.1.1.2 : (List Int)), Item.own v12 (x12.2 : (List Int)), Item.own v11 (x11.1 : (List (Int × (List Int)))), Item.box b4 [(.int .i64 x13.1.1.1), v13, (.int .i64 x13.1.2.1), (.int .i64 x13.1.2.2)], Item.own v3 (x10 : (List (Int × (List Int) × Int × Int × Int))), Item.own v2 (x9 : (List Int))] := hC17.front 7 rfl
              have hC19 : Ctx [] w0 _ [Item.own v13 (x13.1.1.2 : (List Int)), Item.box b2 [(.int .i64 a4.1), u4], Item.box b1 [u3, (.int .i64 a3.2)], Item.own v12 (x12.2 : (List Int)), Item.own v11 (x11.1 : (List (Int × (List Int)))), Item.box b4 [(.int .i64 x13.1.1.1), v13, (.int .i64 x13.1.2.1), (.int .i64 x13.1.2.2)], Item.own v3 (x10 : (List (Int × (List Int) × Int × Int × Int))), Item.own v2 (x9 : (List Int))] := hC18.front 2 rfl
              have hC20 : Ctx [] w0 _ [Item.box b4 [(.int .i64 x13.1.1.1), v13, (.int .i64 x13.1.2.1), (.int .i64 x13.1.2.2)], Item.own v13 (x13.1.1.2 : (List Int)), Item.box b2 [(.int .i64 a4.1), u4], Item.box b1 [u3, (.int .i64 a3.2)], Item.own v12 (x12.2 : (List Int)), Item.own v11 (x11.1 : (List (Int × (List Int)))), Item.own v3 (x10 : (List (Int × (List Int) × Int × Int × Int))), Item.own v2 (x9 : (List Int))] := hC19.front 5 rfl
              have hC21 : Ctx [] w0 _ [Item.box b4 [(.int .i64 x13.1.1.1), v13, (.int .i64 x13.1.2.1), (.int .i64 x13.1.2.2)], Item.own v13 (x13.1.1.2 : (List Int)), Item.box b2 [(.int .i64 a4.1), u4], Item.box b1 [u3, (.int .i64 a3.2)]] := hC20.headN 4
              refine nrm_sub (l' := [(0, u1), (1, u2), (6, (ptr b1 0)), (7, (ptr b2 0)), (10, (ptr b4 0)), (11, (.bool x13.2))]) ⟨rfl, rfl, rfl, rfl, rfl, rfl, trivial⟩ ?_
              exact ⟨x13.2, b4, x13.1.1.1, v13, x13.1.1.2, x13.1.2.1, x13.1.2.2, rfl, rfl, hC21⟩
            · intro g' hg'
              obtain rfl : g' = 3 := hg'
              intro w15 hB15
              refine AllE_cons rfl rfl rfl ?_
              intro v2 F1 hv4
              refine AllE_cons rfl rfl rfl ?_
              intro v3 F2 hv5
              refine AllE_cons rfl rfl rfl ?_
              rintro _ _ ⟨rfl, rfl⟩
              refine AllE_cons rfl rfl rfl ?_
              intro v4 F3 hv6
              refine AllE_cons rfl rfl rfl ?_
              rintro _ _ ⟨rfl, rfl⟩
              refine AllE_cons rfl rfl rfl ?_
              intro v6 F4 hv7
              refine AllE_cons rfl rfl rfl ?_
              rintro _ _ ⟨v8, v9, F5, F6, rfl, rfl, hv8, hv9⟩
              obtain ⟨rfl, rfl⟩ := val_bool hv9
              refine AllE_cons rfl rfl rfl ?_
              rintro _ _ ⟨rfl, rfl⟩
              refine AllE_cons rfl rfl rfl ?_
              rintro _ _ ⟨⟨_, hx1, hx2⟩, rfl⟩
              obtain rfl := Value.tuple.inj hx1
              obtain rfl := Option.some.inj (show (some v8 : Option Value) = some _ from hx2)
              refine AllE_cons rfl rfl rfl ?_
              rintro _ F7 ⟨b4, rfl, hv10⟩
              refine AllE_nil ?_
              intro hn6 hb6
              have hC9 := hC7.pushL hB15 (Bs := [Item.box b4 [(.int .i64 0), (.slice none 0 0), (.int .i64 0), (.int .i64 0)], Item.own v8 (x13.1 : ((Int × (List Int)) × Int × Int)), Item.own v6 (x12 : (Int × (List Int))), Item.own v4 (x11 : ((List (Int × (List Int))) × Int)), Item.own v3 (x10 : (List (Int × (List Int) × Int × Int × Int))), Item.own v2 (x9 : (List Int))]) (Fs := [F7, F5, F4, F3, F2, F1]) ⟨F7, _, rfl, hv10, F5, _, rfl, hv8, F4, _, rfl, hv7, F3, _, rfl, hv6, F2, _, rfl, hv5, F1, _, rfl, hv4, rfl⟩ (by simpa using hn6) (fun b h => (hb6 b (by simpa using h)).1)
              have hC10 : Ctx [] w0 _ [Item.own v4 (x11 : ((List (Int × (List Int))) × Int)), Item.box b4 [(.int .i64 0), (.slice none 0 0), (.int .i64 0), (.int .i64 0)], Item.own v8 (x13.1 : ((Int × (List Int)) × Int × Int)), Item.own v6 (x12 : (Int × (List Int))), Item.own v3 (x10 : (List (Int × (List Int) × Int × Int × Int))), Item.own v2 (x9 : (List Int)), Item.box b2 [(.int .i64 a4.1), u4], Item.box b1 [u3, (.int .i64 a3.2)]] := hC9.front 3 rfl
              obtain ⟨v11, rfl, hC11⟩ := st73_own hC10
              have hC12 : Ctx [] w0 _ [Item.own v6 (x12 : (Int × (List Int))), Item.own v11 (x11.1 : (List (Int × (List Int)))), Item.box b4 [(.int .i64 0), (.slice none 0 0), (.int .i64 0), (.int .i64 0)], Item.own v8 (x13.1 : ((Int × (List Int)) × Int × Int)), Item.own v3 (x10 : (List (Int × (List Int) × Int × Int × Int))), Item.own v2 (x9 : (List Int)), Item.box b2 [(.int .i64 a4.1), u4], Item.box b1 [u3, (.int .i64 a3.2)]] := hC11.front 3 rfl
              obtain ⟨v12, rfl, hC13⟩ := st35_own hC12
              have hC14 : Ctx [] w0 _ [Item.own v8 (x13.1 : ((Int × (List Int)) × Int × Int)), Item.own v12 (x12.2 : (List Int)), Item.own v11 (x11.1 : (List (Int × (List Int)))), Item.box b4 [(.int .i64 0), (.slice none 0 0), (.int .i64 0), (.int .i64 0)], Item.own v3 (x10 : (List (Int × (List Int) × Int × Int × Int))), Item.own v2 (x9 : (List Int)), Item.box b2 [(.int .i64 a4.1), u4], Item.box b1 [u3, (.int .i64 a3.2)]] := hC13.front 3 rfl
              obtain ⟨v13, rfl, hC15⟩ := st97_own hC14
              refine WA_take 11 rfl (by kernel_rfl) (by kernel_rfl) (by kernel_rfl) rfl (fl_extract rfl rfl) ?_
              refine WL_extract rfl rfl rfl ?_
              refine WL_nil ?_
              refine WA_one 13 (by kernel_rfl) rfl ?_
              refine WL_store_box_agg (cs' := [(.int .i64 x13.1.1.1), v13, (.int .i64 x13.1.2.1), (.int .i64 x13.1.2.2)]) (new := [(.int .i64 x13.1.1.1), v13, (.int .i64 x13.1.2.1), (.int .i64 x13.1.2.2)]) hC15 3 rfl rfl (by intro v hv; simp only [List.mem_cons, List.not_mem_nil, or_false] at hv; rcases hv with rfl | rfl | rfl | rfl; exact rfl; exact (ro_one (hC15.ro 0 rfl)); exact rfl; exact rfl) rfl Try.sizeOf97 rfl rfl (fun w16 hC16 => ?_)
              try dsimp only [List.set] at hC16
              refine WL_nil ?_
              refine WA_take 14 rfl (by kernel_rfl) (by kernel_rfl) (by kernel_rfl) rfl (fl_assign rfl) ?_
              refine WL_assign rfl rfl ?_
              refine WL_nil ?_
              refine WA_done (by kernel_rfl) ?_
              have hq5 := Option.some.inj hr4
              subst hq5
              have hC17 : Ctx [] w0 _ [Item.box b1 [u3, (.int .i64 a3.2)], Item.own v13 (x13.1.1.2 : (List Int)), Item.own v12 (x12.2 : (List Int)), Item.own v11 (x11.1 : (List (Int × (List Int)))), Item.box b4 [(.int .i64 x13.1.1.1), v13, (.int .i64 x13.1.2.1), (.int .i64 x13.1.2.2)], Item.own v3 (x10 : (List (Int × (List Int) × Int × Int × Int))), Item.own v2 (x9 : (List Int)), Item.box b2 [(.int .i64 a4.1), u4]] := hC16.front 7 rfl
              have hC18 : Ctx [] w0 _ [Item.box b2 [(.int .i64 a4.1), u4], Item.box b1 [u3, (.int .i64 a3.2)], Item.own v13 (x13.1.1.2 : (List Int)), Item.own v12 (x12.2 : (List Int)), Item.own v11 (x11.1 : (List (Int × (List Int)))), Item.box b4 [(.int .i64 x13.1.1.1), v13, (.int .i64 x13.1.2.1), (.int .i64 x13.1.2.2)], Item.own v3 (x10 : (List (Int × (List Int) × Int × Int × Int))), Item.own v2 (x9 : (List Int))] := hC17.front 7 rfl
              have hC19 : Ctx [] w0 _ [Item.own v13 (x13.1.1.2 : (List Int)), Item.box b2 [(.int .i64 a4.1), u4], Item.box b1 [u3, (.int .i64 a3.2)], Item.own v12 (x12.2 : (List Int)), Item.own v11 (x11.1 : (List (Int × (List Int)))), Item.box b4 [(.int .i64 x13.1.1.1), v13, (.int .i64 x13.1.2.1), (.int .i64 x13.1.2.2)], Item.own v3 (x10 : (List (Int × (List Int) × Int × Int × Int))), Item.own v2 (x9 : (List Int))] := hC18.front 2 rfl
              have hC20 : Ctx [] w0 _ [Item.box b4 [(.int .i64 x13.1.1.1), v13, (.int .i64 x13.1.2.1), (.int .i64 x13.1.2.2)], Item.own v13 (x13.1.1.2 : (List Int)), Item.box b2 [(.int .i64 a4.1), u4], Item.box b1 [u3, (.int .i64 a3.2)], Item.own v12 (x12.2 : (List Int)), Item.own v11 (x11.1 : (List (Int × (List Int)))), Item.own v3 (x10 : (List (Int × (List Int) × Int × Int × Int))), Item.own v2 (x9 : (List Int))] := hC19.front 5 rfl
              have hC21 : Ctx [] w0 _ [Item.box b4 [(.int .i64 x13.1.1.1), v13, (.int .i64 x13.1.2.1), (.int .i64 x13.1.2.2)], Item.own v13 (x13.1.1.2 : (List Int)), Item.box b2 [(.int .i64 a4.1), u4], Item.box b1 [u3, (.int .i64 a3.2)]] := hC20.headN 4
              refine nrm_sub (l' := [(0, u1), (1, u2), (6, (ptr b1 0)), (7, (ptr b2 0)), (10, (ptr b4 0)), (11, (.bool x13.2))]) ⟨rfl, rfl, rfl, rfl, rfl, rfl, trivial⟩ ?_
              exact ⟨x13.2, b4, x13.1.1.1, v13, x13.1.1.2, x13.1.2.1, x13.1.2.2, rfl, rfl, hC21⟩
          · rintro _ w6 ⟨x4, b3, x5, v1, x6, x7, x8, rfl, rfl, hC6⟩
            try dsimp only at hF
            refine W_seq_reg ?_
            refine WL_move rfl rfl ?_
            obtain ⟨x14, hr10, hF⟩ := bind_some hF
            refine WL_call Try.call15 rfl rfl (c_Q_toIntS a1 u1 (g1.now hC6.keep) x14 hr10) ?_
            rintro v14 w17 ⟨hB16, F8, hv11, hn7, hb7⟩
            have hC22 := hC6.push hB16 (A := Item.own v14 x14) hv11 hn7 hb7
            refine WL_assign rfl rfl ?_
            refine WL_nil ?_
            refine W_seq_reg ?_
            refine WL_move rfl rfl ?_
            obtain ⟨x15, hr11, hF⟩ := bind_some hF
            refine WL_call Try.call16 rfl rfl (c_Q_toMethodS a2 u2 (g2.now hC22.keep) x15 hr11) ?_
            rintro v15 w18 ⟨hB17, F9, hv12, hn8, hb8⟩
            have hC23 := hC22.push hB17 (A := Item.own v15 x15) hv12 hn8 hb8
            refine WL_assign rfl rfl ?_
            refine WL_nil ?_
            refine W_seq_reg ?_
            refine WL_load_box_agg [u3, (.int .i64 a3.2)] hC23 5 rfl rfl rfl Try.isAgg65 Try.sizeOf65 rfl rfl ?_
            obtain ⟨x16, hr12, hF⟩ := bind_some hF
            refine WL_call Try.call44 rfl rfl (c_Q_toSource (a3.1, a3.2) u3 (g3.now hC23.keep) x16 hr12) ?_
            rintro v16 w19 ⟨hB18, F10, hv13, hn9, hb9⟩
            have hC24 := hC23.push hB18 (A := Item.own v16 x16) hv13 hn9 hb9
            obtain ⟨v17, rfl, hC25⟩ := st73_own hC24
            refine WL_alloc hC25 zero73 rfl rfl (fun b5 w20 hC26 hB19 => ?_)
            refine WL_store_box_agg (cs' := [v17, (.int .i64 x16.2)]) (new := [v17, (.int .i64 x16.2)]) hC26 0 rfl rfl (by intro v hv; simp only [List.mem_cons, List.not_mem_nil, or_false] at hv; rcases hv with rfl | rfl; exact (ro_one (hC26.ro 1 rfl)); exact rfl) rfl Try.sizeOf73 rfl rfl (fun w21 hC27 => ?_)
            try dsimp only [List.set] at hC27
            refine WL_nil ?_
            refine W_seq_reg ?_
            refine WL_load_box_agg [(.int .i64 a4.1), u4] hC27 6 rfl rfl rfl Try.isAgg25 Try.sizeOf25 rfl rfl ?_
            obtain ⟨x17, hr13, hF⟩ := bind_some hF
            refine WL_call Try.call61 rfl rfl (c_Q_toAccess (a4.1, a4.2) u4 (g4.now hC27.keep) x17 hr13) ?_
            rintro v18 w22 ⟨hB20, F11, hv14, hn10, hb10⟩
            have hC28 := hC27.push hB20 (A := Item.own v18 x17) hv14 hn10 hb10
            obtain ⟨v19, rfl, hC29⟩ := st35_own hC28
            refine WL_alloc hC29 zero35 rfl rfl (fun b6 w23 hC30 hB21 => ?_)
            refine WL_store_box_agg (cs' := [(.int .i64 x17.1), v19]) (new := [(.int .i64 x17.1), v19]) hC30 0 rfl rfl (by intro v hv; simp only [List.mem_cons, List.not_mem_nil, or_false] at hv; rcases hv with rfl | rfl; exact rfl; exact (ro_one (hC30.ro 1 rfl))) rfl Try.sizeOf35 rfl rfl (fun w24 hC31 => ?_)
            try dsimp only [List.set] at hC31
            refine WL_nil ?_
            refine W_seq_reg ?_
            refine WL_move rfl rfl ?_
            refine WL_move rfl rfl ?_
            refine WL_load_box_agg [v17, (.int .i64 x16.2)] hC31 2 rfl rfl rfl Try.isAgg73 Try.sizeOf73 rfl rfl ?_
            refine WL_load_box_agg [(.int .i64 x17.1), v19] hC31 0 rfl rfl rfl Try.isAgg35 Try.sizeOf35 rfl rfl ?_
            obtain ⟨x18, hr14, hF⟩ := bind_some hF
            refine WL_call Try.call62 rfl rfl (c_M_OpenCursor x14 v14 ((hC31.ro 5 rfl).now (Keep.refl _ _)) x15 v15 ((hC31.ro 4 rfl).now (Keep.refl _ _)) (x16.1, x16.2) v17 ((hC31.ro 3 rfl).now (Keep.refl _ _)) (x17.1, x17.2) v19 ((hC31.ro 1 rfl).now (Keep.refl _ _)) x18 hr14) ?_
            rintro _ w25 ⟨hB22, v20, v21, F12, F13, rfl, hv15, hv16, hn11, hb11⟩
            obtain ⟨rfl, rfl⟩ := val_bool hv16
            have hC32 := hC31.pushL hB22 (Bs := [Item.own v20 x18.1]) (Fs := [F12]) ⟨F12, _, rfl, hv15, rfl⟩ (by simpa using hn11) (fun b h => hb11 b (by simpa using h))
            obtain ⟨v22, rfl, hC33⟩ := st97_own hC32
            refine WL_move rfl rfl ?_
            refine WL_extract rfl rfl rfl ?_
            refine WL_extract rfl rfl rfl ?_
            refine WL_alloc hC33 zero97 rfl rfl (fun b7 w26 hC34 hB23 => ?_)
            refine WL_store_box_agg (cs' := [(.int .i64 x18.1.1.1), v22, (.int .i64 x18.1.2.1), (.int .i64 x18.1.2.2)]) (new := [(.int .i64 x18.1.1.1), v22, (.int .i64 x18.1.2.1), (.int .i64 x18.1.2.2)]) hC34 0 rfl rfl (by intro v hv; simp only [List.mem_cons, List.not_mem_nil, or_false] at hv; rcases hv with rfl | rfl | rfl | rfl; exact rfl; exact (ro_one (hC34.ro 1 rfl)); exact rfl; exact rfl) rfl Try.sizeOf97 rfl rfl (fun w27 hC35 => ?_)
            try dsimp only [List.set] at hC35
            refine WL_assign rfl rfl ?_
            refine WL_nil ?_
            refine W_seq ?_
            obtain ⟨r2, hr15, hF⟩ := bind_some hF
            refine W_cut (fun l w => ∃ x19 : Bool, x19 = r2 ∧ l = [(0, u1), (1, u2), (6, (ptr b1 0)), (7, (ptr b2 0)), (10, (ptr b3 0)), (11, (.bool x4)), (12, v14), (13, v15), (14, (ptr b5 0)), (15, (ptr b6 0)), (16, (ptr b7 0)), (17, (.bool x18.2)), (77, (.bool x19))] ∧ Below w27.heap.size w27 w ∧ Ctx [] w0 w [Item.box b7 [(.int .i64 x18.1.1.1), v22, (.int .i64 x18.1.2.1), (.int .i64 x18.1.2.2)], Item.own v22 (x18.1.1.2 : (List Int)), Item.box b6 [(.int .i64 x17.1), v19], Item.own v19 (x17.2 : (List Int)), Item.box b5 [v17, (.int .i64 x16.2)], Item.own v17 (x16.1 : (List (Int × (List Int)))), Item.own v15 (x15 : (List (Int × (List Int) × Int × Int × Int))), Item.own v14 (x14 : (List Int)), Item.box b3 [(.int .i64 x5), v1, (.int .i64 x7), (.int .i64 x8)], Item.own v1 (x6 : (List Int)), Item.box b2 [(.int .i64 a4.1), u4], Item.box b1 [u3, (.int .i64 a3.2)]]) ?_ ?_
            · refine W_reg ?_
              refine WL_load_box_agg [(.int .i64 x18.1.1.1), v22, (.int .i64 x18.1.2.1), (.int .i64 x18.1.2.2)] hC35 0 rfl rfl rfl Try.isAgg97 Try.sizeOf97 rfl rfl ?_
              refine WL_load_box_agg [(.int .i64 x5), v1, (.int .i64 x7), (.int .i64 x8)] hC35 8 rfl rfl rfl Try.isAgg97 Try.sizeOf97 rfl rfl ?_
              obtain ⟨x20, hr16, hr15⟩ := bind_some hr15
              refine WL_call Try.call63 rfl rfl (c_Q_eqCursor ((x18.1.1.1, x18.1.1.2), x18.1.2.1, x18.1.2.2) v22 ((hC35.ro 1 rfl).now (Keep.refl _ _)) ((x5, x6), x7, x8) v1 ((hC35.ro 9 rfl).now (Keep.refl _ _)) x20 hr16) ?_
              intro _ w29 hv17
              obtain ⟨rfl, hB25⟩ := res_bool hv17
              have hC37 := hC35.grow hB25
              refine WL_not rfl rfl ?_
              refine WL_move rfl rfl ?_
              refine WL_fork (fun hc5 => ?_) (fun hc5 => ?_)
              · replace hr15 := ite_t hr15 hc5
                refine WL_guard_skip rfl rfl (by simp) rfl ?_
                refine WL_guard_skip rfl rfl (by simp) rfl ?_
                refine WL_guard_skip rfl rfl (by simp) rfl ?_
                refine WL_pick_t rfl rfl rfl ?_
                refine WL_nil ?_
                have hq6 := Option.some.inj hr15
                subst hq6
                refine nrm_sub (l' := [(0, u1), (1, u2), (6, (ptr b1 0)), (7, (ptr b2 0)), (10, (ptr b3 0)), (11, (.bool x4)), (12, v14), (13, v15), (14, (ptr b5 0)), (15, (ptr b6 0)), (16, (ptr b7 0)), (17, (.bool x18.2)), (77, (.bool true))]) ⟨rfl, rfl, rfl, rfl, rfl, rfl, rfl, rfl, rfl, rfl, rfl, rfl, rfl, trivial⟩ ?_
                exact ⟨true, rfl, rfl, (Keep.of hB25).below, hC37⟩
              · replace hr15 := ite_f hr15 hc5
                refine WL_guard rfl rfl ?_
                refine WL_move rfl rfl ?_
                refine WL_guard rfl rfl ?_
                refine WL_move rfl rfl ?_
                refine WL_guard rfl rfl ?_
                refine WL_bool_neq Try.underlying4 rfl rfl rfl ?_
                refine WL_pick_f rfl rfl rfl ?_
                refine WL_nil ?_
                have hq7 := Option.some.inj hr15
                subst hq7
                refine nrm_sub (l' := [(0, u1), (1, u2), (6, (ptr b1 0)), (7, (ptr b2 0)), (10, (ptr b3 0)), (11, (.bool x4)), (12, v14), (13, v15), (14, (ptr b5 0)), (15, (ptr b6 0)), (16, (ptr b7 0)), (17, (.bool x18.2)), (77, (.bool (!decide (x18.2 = x4))))]) ⟨rfl, rfl, rfl, rfl, rfl, rfl, rfl, rfl, rfl, rfl, rfl, rfl, rfl, trivial⟩ ?_
                exact ⟨(!decide (x18.2 = x4)), rfl, rfl, (Keep.of hB25).below, hC37⟩
            · rintro _ w28 ⟨x19, rfl, rfl, hB24, hC36⟩
              try dsimp only at hF
              refine W_cond rfl (fun hc6 => ?_) (fun hc6 => ?_)
              · replace hF := ite_t hF hc6
                refine W_seq_reg ?_
                refine WL_assign rfl rfl ?_
                refine WL_nil ?_
                refine W_ret ?_
                refine nrm_ret ?_
                have hq8 := Option.some.inj hF
                subst hq8
                refine fn_ret1 rfl rfl ?_
                exact ⟨_, rfl, bool_res hC36 _⟩
              · replace hF := ite_f hF hc6
                refine W_skip ?_
                refine nrm_normal ?_
                refine W_seq ?_
                refine W_seq_reg ?_
                refine WL_move rfl rfl ?_
                refine WL_move rfl rfl ?_
                obtain ⟨x21, hr17, hF⟩ := bind_some hF
                refine WL_call Try.call15 rfl rfl (c_Q_toIntS a1 u1 (g1.now hC36.keep) x21 hr17) ?_
                rintro v23 w30 ⟨hB26, F14, hv18, hn12, hb12⟩
                have hC38 := hC36.push hB26 (A := Item.own v23 x21) hv18 hn12 hb12
                obtain ⟨x22, hr18, hF⟩ := bind_some hF
                refine WL_call Try.call19 rfl rfl (c_Q_eqIntS x14 v14 ((hC38.ro 8 rfl).now (Keep.refl _ _)) x21 v23 ((hC38.ro 0 rfl).now (Keep.refl _ _)) x22 hr18) ?_
                intro _ w31 hv19
                obtain ⟨rfl, hB27⟩ := res_bool hv19
                have hC39 := hC38.grow hB27
                refine WL_not rfl rfl ?_
                refine WL_nil ?_
                refine W_cond rfl (fun hc7 => ?_) (fun hc7 => ?_)
                · replace hF := ite_t hF hc7
                  refine W_seq_reg ?_
                  refine WL_assign rfl rfl ?_
                  refine WL_nil ?_
                  refine W_ret ?_
                  refine nrm_ret ?_
                  have hq9 := Option.some.inj hF
                  subst hq9
                  refine fn_ret1 rfl rfl ?_
                  exact ⟨_, rfl, bool_res hC39 _⟩
                · replace hF := ite_f hF hc7
                  refine W_skip ?_
                  refine nrm_normal ?_
                  refine W_seq ?_
                  refine W_seq_reg ?_
                  refine WL_move rfl rfl ?_
                  refine WL_move rfl rfl ?_
                  obtain ⟨x23, hr19, hF⟩ := bind_some hF
                  refine WL_call Try.call16 rfl rfl (c_Q_toMethodS a2 u2 (g2.now hC39.keep) x23 hr19) ?_
                  rintro v24 w32 ⟨hB28, F15, hv20, hn13, hb13⟩
                  have hC40 := hC39.push hB28 (A := Item.own v24 x23) hv20 hn13 hb13
                  obtain ⟨x24, hr20, hF⟩ := bind_some hF
                  refine WL_call Try.call20 rfl rfl (c_Q_eqMethodS x15 v15 ((hC40.ro 8 rfl).now (Keep.refl _ _)) x23 v24 ((hC40.ro 0 rfl).now (Keep.refl _ _)) x24 hr20) ?_
                  intro _ w33 hv21
                  obtain ⟨rfl, hB29⟩ := res_bool hv21
                  have hC41 := hC40.grow hB29
                  refine WL_not rfl rfl ?_
                  refine WL_nil ?_
                  refine W_cond rfl (fun hc8 => ?_) (fun hc8 => ?_)
                  · replace hF := ite_t hF hc8
                    refine W_seq_reg ?_
                    refine WL_assign rfl rfl ?_
                    refine WL_nil ?_
                    refine W_ret ?_
                    refine nrm_ret ?_
                    have hq10 := Option.some.inj hF
                    subst hq10
                    refine fn_ret1 rfl rfl ?_
                    exact ⟨_, rfl, bool_res hC41 _⟩
                  · replace hF := ite_f hF hc8
                    refine W_skip ?_
                    refine nrm_normal ?_
                    refine W_seq ?_
                    refine W_seq ?_
                    refine W_drawn 5 rfl hmix (fun w34 hB30 => ?_)
                    have hC42 := hC41.grow hB30
                    obtain ⟨x25, hr21, hF⟩ := bind_some hF
                    refine WA.sub (l' := [(0, u1), (1, u2), (6, (ptr b1 0)), (7, (ptr b2 0)), (10, (ptr b3 0)), (11, (.bool x4)), (12, v14), (13, v15), (14, (ptr b5 0)), (15, (ptr b6 0)), (16, (ptr b7 0)), (17, (.bool x18.2)), (77, (.bool x19)), (78, v14), (79, u1), (80, v23), (81, (.bool x22)), (82, (.bool (!x22))), (83, v15), (84, u2), (85, v24), (86, (.bool x24)), (87, (.bool (!x24)))]) ?_ ⟨rfl, rfl, rfl, rfl, rfl, rfl, rfl, rfl, rfl, rfl, rfl, rfl, rfl, rfl, rfl, rfl, rfl, rfl, rfl, rfl, rfl, rfl, rfl, trivial⟩
                    refine WA_postsE [⟨0, [], fun vs => PW.val (.agg #[v17, (.int .i64 x16.2)]), []⟩, ⟨1, [], fun vs => PW.val (.agg #[u3, (.int .i64 a3.2)]), []⟩, ⟨2, [], fun vs => PW.own x25, []⟩] [[], [], [1]] 2 rfl (by kernel_rfl) (by kernel_rfl) rfl ?_ ?_
                    · refine StepsE_cons rfl ?_ ?_
                      · intro w36 hB32
                        refine DepsE_nil ?_
                        refine ⟨_, rfl, ?_⟩
                        refine WL_load_box_agg [v17, (.int .i64 x16.2)] (hC42.grow hB32) 6 rfl rfl rfl Try.isAgg73 Try.sizeOf73 rfl rfl ?_
                        refine WL_nil ?_
                        exact FinE_val (Below.refl _ _) rfl rfl ⟨rfl, rfl⟩
                      refine StepsE_cons rfl ?_ ?_
                      · intro w36 hB32
                        refine DepsE_nil ?_
                        refine ⟨_, rfl, ?_⟩
                        refine WL_load_box_agg [u3, (.int .i64 a3.2)] (hC42.grow hB32) 13 rfl rfl rfl Try.isAgg65 Try.sizeOf65 rfl rfl ?_
                        refine WL_nil ?_
                        exact FinE_val (Below.refl _ _) rfl rfl ⟨rfl, rfl⟩
                      refine StepsE_cons rfl ?_ ?_
                      · intro w36 hB32
                        refine DepsE_cons rfl rfl rfl ?_
                        rintro _ _ ⟨rfl, rfl⟩ _
                        refine DepsE_nil ?_
                        refine ⟨_, rfl, ?_⟩
                        refine WL_call Try.call44 rfl rfl (c_Q_toSource (a3.1, a3.2) u3 (g3.now (hC42.keep.then hB32)) x25 hr21) ?_
                        rintro v25 w35 ⟨hB31, F16, hv22, hn14, hb14⟩
                        refine WL_nil ?_
                        exact FinE_own hB31 rfl rfl hv22 hn14 hb14 (Val.inh hv22)
                      exact StepsE_nil
                    · intro w37 hB33
                      refine AllE_cons rfl rfl rfl ?_
                      rintro _ _ ⟨rfl, rfl⟩
                      refine AllE_cons rfl rfl rfl ?_
                      rintro _ _ ⟨rfl, rfl⟩
                      refine AllE_cons rfl rfl rfl ?_
                      intro v25 F16 hv22
                      refine AllE_nil ?_
                      intro hn15 hb15
                      have hC43 := hC42.pushL hB33 (Bs := [Item.own v25 (x25 : ((List (Int × (List Int))) × Int))]) (Fs := [F16]) ⟨F16, _, rfl, hv22, rfl⟩ (by simpa using hn15) (fun b h => (hb15 b (by simpa using h)).1)
                      obtain ⟨v27, rfl, hC44⟩ := st73_own hC43
                      obtain ⟨x26, hr22, hF⟩ := bind_some hF
                      refine WA_one 3 (by kernel_rfl) rfl ?_
                      refine WL_call Try.call47 rfl rfl (c_Q_eqSource (x16.1, x16.2) v17 ((hC44.ro 8 rfl).now (Keep.refl _ _)) x25 v27 ((hC44.ro 0 rfl).now (Keep.refl _ _)) x26 hr22) ?_
                      intro _ w38 hv23
                      obtain ⟨rfl, hB34⟩ := res_bool hv23
                      have hC45 := hC44.grow hB34
                      refine WL_nil ?_
                      refine WA_take 4 rfl (by kernel_rfl) (by kernel_rfl) (by kernel_rfl) rfl (fl_not rfl) ?_
                      refine WL_not rfl rfl ?_
                      refine WL_nil ?_
                      refine WA_done (by kernel_rfl) ?_
                      refine nrm_normal ?_
                      refine W_cond rfl (fun hc9 => ?_) (fun hc9 => ?_)
                      · replace hF := ite_t hF hc9
                        refine W_seq_reg ?_
                        refine WL_assign rfl rfl ?_
                        refine WL_nil ?_
                        refine W_ret ?_
                        refine nrm_ret ?_
                        have hq11 := Option.some.inj hF
                        subst hq11
                        refine fn_ret1 rfl rfl ?_
                        exact ⟨_, rfl, bool_res hC45 _⟩
                      · replace hF := ite_f hF hc9
                        refine W_skip ?_
                        refine nrm_normal ?_
                        refine W_seq ?_
                        refine W_seq ?_
                        refine W_drawn 5 rfl hmix (fun w39 hB35 => ?_)
                        have hC46 := hC45.grow hB35
                        obtain ⟨x27, hr23, hF⟩ := bind_some hF
                        refine WA.sub (l' := [(0, u1), (1, u2), (6, (ptr b1 0)), (7, (ptr b2 0)), (10, (ptr b3 0)), (11, (.bool x4)), (12, v14), (13, v15), (14, (ptr b5 0)), (15, (ptr b6 0)), (16, (ptr b7 0)), (17, (.bool x18.2)), (77, (.bool x19)), (78, v14), (79, u1), (80, v23), (81, (.bool x22)), (82, (.bool (!x22))), (83, v15), (84, u2), (85, v24), (86, (.bool x24)), (87, (.bool (!x24))), (88, (.agg #[v17, (.int .i64 x16.2)])), (89, (.agg #[u3, (.int .i64 a3.2)])), (90, (.agg #[v27, (.int .i64 x25.2)])), (91, (.bool x26)), (92, (.bool (!x26)))]) ?_ ⟨rfl, rfl, rfl, rfl, rfl, rfl, rfl, rfl, rfl, rfl, rfl, rfl, rfl, rfl, rfl, rfl, rfl, rfl, rfl, rfl, rfl, rfl, rfl, rfl, rfl, rfl, rfl, rfl, trivial⟩
                        refine WA_postsE [⟨0, [], fun vs => PW.val (.agg #[(.int .i64 x17.1), v19]), []⟩, ⟨1, [], fun vs => PW.val (.agg #[(.int .i64 a4.1), u4]), []⟩, ⟨2, [], fun vs => PW.own x27, []⟩] [[], [], [1]] 2 rfl (by kernel_rfl) (by kernel_rfl) rfl ?_ ?_
                        · refine StepsE_cons rfl ?_ ?_
                          · intro w41 hB37
                            refine DepsE_nil ?_
                            refine ⟨_, rfl, ?_⟩
                            refine WL_load_box_agg [(.int .i64 x17.1), v19] (hC46.grow hB37) 5 rfl rfl rfl Try.isAgg35 Try.sizeOf35 rfl rfl ?_
                            refine WL_nil ?_
                            exact FinE_val (Below.refl _ _) rfl rfl ⟨rfl, rfl⟩
                          refine StepsE_cons rfl ?_ ?_
                          · intro w41 hB37
                            refine DepsE_nil ?_
                            refine ⟨_, rfl, ?_⟩
                            refine WL_load_box_agg [(.int .i64 a4.1), u4] (hC46.grow hB37) 13 rfl rfl rfl Try.isAgg25 Try.sizeOf25 rfl rfl ?_
                            refine WL_nil ?_
                            exact FinE_val (Below.refl _ _) rfl rfl ⟨rfl, rfl⟩
                          refine StepsE_cons rfl ?_ ?_
                          · intro w41 hB37
                            refine DepsE_cons rfl rfl rfl ?_
                            rintro _ _ ⟨rfl, rfl⟩ _
                            refine DepsE_nil ?_
                            refine ⟨_, rfl, ?_⟩
                            refine WL_call Try.call61 rfl rfl (c_Q_toAccess (a4.1, a4.2) u4 (g4.now (hC46.keep.then hB37)) x27 hr23) ?_
                            rintro v28 w40 ⟨hB36, F17, hv24, hn16, hb16⟩
                            refine WL_nil ?_
                            exact FinE_own hB36 rfl rfl hv24 hn16 hb16 (Val.inh hv24)
                          exact StepsE_nil
                        · intro w42 hB38
                          refine AllE_cons rfl rfl rfl ?_
                          rintro _ _ ⟨rfl, rfl⟩
                          refine AllE_cons rfl rfl rfl ?_
                          rintro _ _ ⟨rfl, rfl⟩
                          refine AllE_cons rfl rfl rfl ?_
                          intro v28 F17 hv24
                          refine AllE_nil ?_
                          intro hn17 hb17
                          have hC47 := hC46.pushL hB38 (Bs := [Item.own v28 (x27 : (Int × (List Int)))]) (Fs := [F17]) ⟨F17, _, rfl, hv24, rfl⟩ (by simpa using hn17) (fun b h => (hb17 b (by simpa using h)).1)
                          obtain ⟨v30, rfl, hC48⟩ := st35_own hC47
                          obtain ⟨x28, hr24, hF⟩ := bind_some hF
                          refine WA_one 3 (by kernel_rfl) rfl ?_
                          refine WL_call Try.call64 rfl rfl (c_Q_eqAccess (x17.1, x17.2) v19 ((hC48.ro 7 rfl).now (Keep.refl _ _)) x27 v30 ((hC48.ro 0 rfl).now (Keep.refl _ _)) x28 hr24) ?_
                          intro _ w43 hv25
                          obtain ⟨rfl, hB39⟩ := res_bool hv25
                          have hC49 := hC48.grow hB39
                          refine WL_nil ?_
                          refine WA_take 4 rfl (by kernel_rfl) (by kernel_rfl) (by kernel_rfl) rfl (fl_not rfl) ?_
                          refine WL_not rfl rfl ?_
                          refine WL_nil ?_
                          refine WA_done (by kernel_rfl) ?_
                          refine nrm_normal ?_
                          refine W_cond rfl (fun hc10 => ?_) (fun hc10 => ?_)
                          · replace hF := ite_t hF hc10
                            refine W_seq_reg ?_
                            refine WL_assign rfl rfl ?_
                            refine WL_nil ?_
                            refine W_ret ?_
                            refine nrm_ret ?_
                            have hq12 := Option.some.inj hF
                            subst hq12
                            refine fn_ret1 rfl rfl ?_
                            exact ⟨_, rfl, bool_res hC49 _⟩
                          · replace hF := ite_f hF hc10
                            refine W_skip ?_
                            refine nrm_normal ?_
                            refine W_seq_reg ?_
                            refine WL_assign rfl rfl ?_
                            refine WL_nil ?_
                            refine W_seq_reg ?_
                            refine WL_move rfl rfl ?_
                            refine WL_move rfl rfl ?_
                            obtain ⟨x29, hr25, hF⟩ := bind_some hF
                            have hC50 : Ctx [] w0 _ [Item.own v14 (x14 : (List Int)), Item.own v30 (x27.2 : (List Int)), Item.own v27 (x25.1 : (List (Int × (List Int)))), Item.own v24 (x23 : (List (Int × (List Int) × Int × Int × Int))), Item.own v23 (x21 : (List Int)), Item.box b7 [(.int .i64 x18.1.1.1), v22, (.int .i64 x18.1.2.1), (.int .i64 x18.1.2.2)], Item.own v22 (x18.1.1.2 : (List Int)), Item.box b6 [(.int .i64 x17.1), v19], Item.own v19 (x17.2 : (List Int)), Item.box b5 [v17, (.int .i64 x16.2)], Item.own v17 (x16.1 : (List (Int × (List Int)))), Item.own v15 (x15 : (List (Int × (List Int) × Int × Int × Int))), Item.box b3 [(.int .i64 x5), v1, (.int .i64 x7), (.int .i64 x8)], Item.own v1 (x6 : (List Int)), Item.box b2 [(.int .i64 a4.1), u4], Item.box b1 [u3, (.int .i64 a3.2)]] := hC49.front 11 rfl
                            obtain ⟨Fs1, hH1, hn18, hF1, hO1, hb18⟩ := Ctx.lend2 (As := [Item.own v30 (x27.2 : (List Int)), Item.own v27 (x25.1 : (List (Int × (List Int)))), Item.own v24 (x23 : (List (Int × (List Int) × Int × Int × Int))), Item.own v23 (x21 : (List Int)), Item.box b7 [(.int .i64 x18.1.1.1), v22, (.int .i64 x18.1.2.1), (.int .i64 x18.1.2.2)], Item.own v22 (x18.1.1.2 : (List Int)), Item.box b6 [(.int .i64 x17.1), v19], Item.own v19 (x17.2 : (List Int)), Item.box b5 [v17, (.int .i64 x16.2)], Item.own v17 (x16.1 : (List (Int × (List Int)))), Item.own v15 (x15 : (List (Int × (List Int) × Int × Int × Int))), Item.box b3 [(.int .i64 x5), v1, (.int .i64 x7), (.int .i64 x8)], Item.own v1 (x6 : (List Int)), Item.box b2 [(.int .i64 a4.1), u4], Item.box b1 [u3, (.int .i64 a3.2)]]) [Item.own v14 (x14 : (List Int))] hC50
                            refine WL_call Try.call49 rfl rfl (c_Q_markIntS x14 v14 1 hH1 hn18 x29 hr25) ?_
                            rintro _ w44 ⟨rfl, hq13⟩
                            have hC51 : Ctx [] w0 w44 [Item.own v14 (x29.2 : (List Int)), Item.own v30 (x27.2 : (List Int)), Item.own v27 (x25.1 : (List (Int × (List Int)))), Item.own v24 (x23 : (List (Int × (List Int) × Int × Int × Int))), Item.own v23 (x21 : (List Int)), Item.box b7 [(.int .i64 x18.1.1.1), v22, (.int .i64 x18.1.2.1), (.int .i64 x18.1.2.2)], Item.own v22 (x18.1.1.2 : (List Int)), Item.box b6 [(.int .i64 x17.1), v19], Item.own v19 (x17.2 : (List Int)), Item.box b5 [v17, (.int .i64 x16.2)], Item.own v17 (x16.1 : (List (Int × (List Int)))), Item.own v15 (x15 : (List (Int × (List Int) × Int × Int × Int))), Item.box b3 [(.int .i64 x5), v1, (.int .i64 x7), (.int .i64 x8)], Item.own v1 (x6 : (List Int)), Item.box b2 [(.int .i64 a4.1), u4], Item.box b1 [u3, (.int .i64 a3.2)]] := hb18 _ _ hq13
                            refine WL_assign rfl rfl ?_
                            refine WL_nil ?_
                            refine W_seq_reg ?_
                            refine WL_move rfl rfl ?_
                            refine WL_move rfl rfl ?_
                            obtain ⟨x30, hr26, hF⟩ := bind_some hF
                            have hC52 : Ctx [] w0 _ [Item.own v15 (x15 : (List (Int × (List Int) × Int × Int × Int))), Item.own v14 (x29.2 : (List Int)), Item.own v30 (x27.2 : (List Int)), Item.own v27 (x25.1 : (List (Int × (List Int)))), Item.own v24 (x23 : (List (Int × (List Int) × Int × Int × Int))), Item.own v23 (x21 : (List Int)), Item.box b7 [(.int .i64 x18.1.1.1), v22, (.int .i64 x18.1.2.1), (.int .i64 x18.1.2.2)], Item.own v22 (x18.1.1.2 : (List Int)), Item.box b6 [(.int .i64 x17.1), v19], Item.own v19 (x17.2 : (List Int)), Item.box b5 [v17, (.int .i64 x16.2)], Item.own v17 (x16.1 : (List (Int × (List Int)))), Item.box b3 [(.int .i64 x5), v1, (.int .i64 x7), (.int .i64 x8)], Item.own v1 (x6 : (List Int)), Item.box b2 [(.int .i64 a4.1), u4], Item.box b1 [u3, (.int .i64 a3.2)]] := hC51.front 11 rfl
                            obtain ⟨Fs2, hH2, hn19, hF2, hO2, hb19⟩ := Ctx.lend2 (As := [Item.own v14 (x29.2 : (List Int)), Item.own v30 (x27.2 : (List Int)), Item.own v27 (x25.1 : (List (Int × (List Int)))), Item.own v24 (x23 : (List (Int × (List Int) × Int × Int × Int))), Item.own v23 (x21 : (List Int)), Item.box b7 [(.int .i64 x18.1.1.1), v22, (.int .i64 x18.1.2.1), (.int .i64 x18.1.2.2)], Item.own v22 (x18.1.1.2 : (List Int)), Item.box b6 [(.int .i64 x17.1), v19], Item.own v19 (x17.2 : (List Int)), Item.box b5 [v17, (.int .i64 x16.2)], Item.own v17 (x16.1 : (List (Int × (List Int)))), Item.box b3 [(.int .i64 x5), v1, (.int .i64 x7), (.int .i64 x8)], Item.own v1 (x6 : (List Int)), Item.box b2 [(.int .i64 a4.1), u4], Item.box b1 [u3, (.int .i64 a3.2)]]) [Item.own v15 (x15 : (List (Int × (List Int) × Int × Int × Int)))] hC52
                            refine WL_call Try.call65 rfl rfl (c_Q_markMethodS x15 v15 x29.1 hH2 hn19 x30 hr26) ?_
                            rintro _ w45 ⟨rfl, hq14⟩
                            have hC53 : Ctx [] w0 w45 [Item.own v15 (x30.2 : (List (Int × (List Int) × Int × Int × Int))), Item.own v14 (x29.2 : (List Int)), Item.own v30 (x27.2 : (List Int)), Item.own v27 (x25.1 : (List (Int × (List Int)))), Item.own v24 (x23 : (List (Int × (List Int) × Int × Int × Int))), Item.own v23 (x21 : (List Int)), Item.box b7 [(.int .i64 x18.1.1.1), v22, (.int .i64 x18.1.2.1), (.int .i64 x18.1.2.2)], Item.own v22 (x18.1.1.2 : (List Int)), Item.box b6 [(.int .i64 x17.1), v19], Item.own v19 (x17.2 : (List Int)), Item.box b5 [v17, (.int .i64 x16.2)], Item.own v17 (x16.1 : (List (Int × (List Int)))), Item.box b3 [(.int .i64 x5), v1, (.int .i64 x7), (.int .i64 x8)], Item.own v1 (x6 : (List Int)), Item.box b2 [(.int .i64 a4.1), u4], Item.box b1 [u3, (.int .i64 a3.2)]] := hb19 _ _ hq14
                            refine WL_assign rfl rfl ?_
                            refine WL_nil ?_
                            refine W_seq_reg ?_
                            refine WL_load_box_agg [v17, (.int .i64 x16.2)] hC53 10 rfl rfl rfl Try.isAgg73 Try.sizeOf73 rfl rfl ?_
                            refine WL_move rfl rfl ?_
                            obtain ⟨x31, hr27, hF⟩ := bind_some hF
                            have hC54 : Ctx [] w0 _ [Item.own v17 (x16.1 : (List (Int × (List Int)))), Item.own v15 (x30.2 : (List (Int × (List Int) × Int × Int × Int))), Item.own v14 (x29.2 : (List Int)), Item.own v30 (x27.2 : (List Int)), Item.own v27 (x25.1 : (List (Int × (List Int)))), Item.own v24 (x23 : (List (Int × (List Int) × Int × Int × Int))), Item.own v23 (x21 : (List Int)), Item.box b7 [(.int .i64 x18.1.1.1), v22, (.int .i64 x18.1.2.1), (.int .i64 x18.1.2.2)], Item.own v22 (x18.1.1.2 : (List Int)), Item.box b6 [(.int .i64 x17.1), v19], Item.own v19 (x17.2 : (List Int)), Item.box b5 [v17, (.int .i64 x16.2)], Item.box b3 [(.int .i64 x5), v1, (.int .i64 x7), (.int .i64 x8)], Item.own v1 (x6 : (List Int)), Item.box b2 [(.int .i64 a4.1), u4], Item.box b1 [u3, (.int .i64 a3.2)]] := hC53.front 11 rfl
                            obtain ⟨Fs3, hH3, hn20, hF3, hO3, hb20⟩ := Ctx.lend2 (As := [Item.own v15 (x30.2 : (List (Int × (List Int) × Int × Int × Int))), Item.own v14 (x29.2 : (List Int)), Item.own v30 (x27.2 : (List Int)), Item.own v27 (x25.1 : (List (Int × (List Int)))), Item.own v24 (x23 : (List (Int × (List Int) × Int × Int × Int))), Item.own v23 (x21 : (List Int)), Item.box b7 [(.int .i64 x18.1.1.1), v22, (.int .i64 x18.1.2.1), (.int .i64 x18.1.2.2)], Item.own v22 (x18.1.1.2 : (List Int)), Item.box b6 [(.int .i64 x17.1), v19], Item.own v19 (x17.2 : (List Int)), Item.box b5 [v17, (.int .i64 x16.2)], Item.box b3 [(.int .i64 x5), v1, (.int .i64 x7), (.int .i64 x8)], Item.own v1 (x6 : (List Int)), Item.box b2 [(.int .i64 a4.1), u4], Item.box b1 [u3, (.int .i64 a3.2)]]) [Item.own v17 (x16.1 : (List (Int × (List Int))))] hC54
                            refine WL_call Try.call50 rfl rfl (c_Q_markSource (x16.1, x16.2) v17 x30.1 hH3 hn20 x31 hr27) ?_
                            rintro _ w46 ⟨rfl, hq15⟩
                            have hC55 : Ctx [] w0 w46 [Item.own v17 (x31.2.1 : (List (Int × (List Int)))), Item.own v15 (x30.2 : (List (Int × (List Int) × Int × Int × Int))), Item.own v14 (x29.2 : (List Int)), Item.own v30 (x27.2 : (List Int)), Item.own v27 (x25.1 : (List (Int × (List Int)))), Item.own v24 (x23 : (List (Int × (List Int) × Int × Int × Int))), Item.own v23 (x21 : (List Int)), Item.box b7 [(.int .i64 x18.1.1.1), v22, (.int .i64 x18.1.2.1), (.int .i64 x18.1.2.2)], Item.own v22 (x18.1.1.2 : (List Int)), Item.box b6 [(.int .i64 x17.1), v19], Item.own v19 (x17.2 : (List Int)), Item.box b5 [v17, (.int .i64 x16.2)], Item.box b3 [(.int .i64 x5), v1, (.int .i64 x7), (.int .i64 x8)], Item.own v1 (x6 : (List Int)), Item.box b2 [(.int .i64 a4.1), u4], Item.box b1 [u3, (.int .i64 a3.2)]] := hb20 _ _ hq15
                            refine WL_assign rfl rfl ?_
                            refine WL_nil ?_
                            refine W_seq_reg ?_
                            refine WL_load_box_agg [(.int .i64 x17.1), v19] hC55 9 rfl rfl rfl Try.isAgg35 Try.sizeOf35 rfl rfl ?_
                            refine WL_move rfl rfl ?_
                            obtain ⟨x32, hr28, hF⟩ := bind_some hF
                            have hC56 : Ctx [] w0 _ [Item.own v19 (x17.2 : (List Int)), Item.own v17 (x31.2.1 : (List (Int × (List Int)))), Item.own v15 (x30.2 : (List (Int × (List Int) × Int × Int × Int))), Item.own v14 (x29.2 : (List Int)), Item.own v30 (x27.2 : (List Int)), Item.own v27 (x25.1 : (List (Int × (List Int)))), Item.own v24 (x23 : (List (Int × (List Int) × Int × Int × Int))), Item.own v23 (x21 : (List Int)), Item.box b7 [(.int .i64 x18.1.1.1), v22, (.int .i64 x18.1.2.1), (.int .i64 x18.1.2.2)], Item.own v22 (x18.1.1.2 : (List Int)), Item.box b6 [(.int .i64 x17.1), v19], Item.box b5 [v17, (.int .i64 x16.2)], Item.box b3 [(.int .i64 x5), v1, (.int .i64 x7), (.int .i64 x8)], Item.own v1 (x6 : (List Int)), Item.box b2 [(.int .i64 a4.1), u4], Item.box b1 [u3, (.int .i64 a3.2)]] := hC55.front 10 rfl
                            obtain ⟨Fs4, hH4, hn21, hF4, hO4, hb21⟩ := Ctx.lend2 (As := [Item.own v17 (x31.2.1 : (List (Int × (List Int)))), Item.own v15 (x30.2 : (List (Int × (List Int) × Int × Int × Int))), Item.own v14 (x29.2 : (List Int)), Item.own v30 (x27.2 : (List Int)), Item.own v27 (x25.1 : (List (Int × (List Int)))), Item.own v24 (x23 : (List (Int × (List Int) × Int × Int × Int))), Item.own v23 (x21 : (List Int)), Item.box b7 [(.int .i64 x18.1.1.1), v22, (.int .i64 x18.1.2.1), (.int .i64 x18.1.2.2)], Item.own v22 (x18.1.1.2 : (List Int)), Item.box b6 [(.int .i64 x17.1), v19], Item.box b5 [v17, (.int .i64 x16.2)], Item.box b3 [(.int .i64 x5), v1, (.int .i64 x7), (.int .i64 x8)], Item.own v1 (x6 : (List Int)), Item.box b2 [(.int .i64 a4.1), u4], Item.box b1 [u3, (.int .i64 a3.2)]]) [Item.own v19 (x17.2 : (List Int))] hC56
                            refine WL_call Try.call66 rfl rfl (c_Q_markAccess (x17.1, x17.2) v19 x31.1 hH4 hn21 x32 hr28) ?_
                            rintro _ w47 ⟨rfl, hq16⟩
                            have hC57 : Ctx [] w0 w47 [Item.own v19 (x32.2.2 : (List Int)), Item.own v17 (x31.2.1 : (List (Int × (List Int)))), Item.own v15 (x30.2 : (List (Int × (List Int) × Int × Int × Int))), Item.own v14 (x29.2 : (List Int)), Item.own v30 (x27.2 : (List Int)), Item.own v27 (x25.1 : (List (Int × (List Int)))), Item.own v24 (x23 : (List (Int × (List Int) × Int × Int × Int))), Item.own v23 (x21 : (List Int)), Item.box b7 [(.int .i64 x18.1.1.1), v22, (.int .i64 x18.1.2.1), (.int .i64 x18.1.2.2)], Item.own v22 (x18.1.1.2 : (List Int)), Item.box b6 [(.int .i64 x17.1), v19], Item.box b5 [v17, (.int .i64 x16.2)], Item.box b3 [(.int .i64 x5), v1, (.int .i64 x7), (.int .i64 x8)], Item.own v1 (x6 : (List Int)), Item.box b2 [(.int .i64 a4.1), u4], Item.box b1 [u3, (.int .i64 a3.2)]] := hb21 _ _ hq16
                            refine WL_assign rfl rfl ?_
                            refine WL_nil ?_
                            refine W_seq ?_
                            obtain ⟨r3, hr29, hF⟩ := bind_some hF
                            refine W_cut (fun l w => ∃ x33 : Bool, x33 = r3 ∧ l = [(0, u1), (1, u2), (6, (ptr b1 0)), (7, (ptr b2 0)), (10, (ptr b3 0)), (11, (.bool x4)), (16, (ptr b7 0)), (122, (.bool x33))] ∧ Below w47.heap.size w47 w ∧ Ctx [] w0 w [Item.box b7 [(.int .i64 x18.1.1.1), v22, (.int .i64 x18.1.2.1), (.int .i64 x18.1.2.2)], Item.own v22 (x18.1.1.2 : (List Int)), Item.box b3 [(.int .i64 x5), v1, (.int .i64 x7), (.int .i64 x8)], Item.own v1 (x6 : (List Int)), Item.box b2 [(.int .i64 a4.1), u4], Item.box b1 [u3, (.int .i64 a3.2)]]) ?_ ?_
                            · refine W_reg ?_
                              refine WL_move rfl rfl ?_
                              refine WL_lss rfl rfl rfl ?_
                              refine WL_move rfl rfl ?_
                              refine WL_fork (fun hc11 => ?_) (fun hc11 => ?_)
                              · replace hr29 := ite_t hr29 hc11
                                refine WL_guard_skip rfl rfl (by simp) rfl ?_
                                refine WL_guard_skip rfl rfl (by simp) rfl ?_
                                refine WL_guard_skip rfl rfl (by simp) rfl ?_
                                refine WL_guard_skip rfl rfl (by simp) rfl ?_
                                refine WL_pick_t rfl rfl rfl ?_
                                refine WL_move rfl rfl ?_
                                refine WL_guard_skip rfl rfl (by simp) rfl ?_
                                refine WL_guard_skip rfl rfl (by simp) rfl ?_
                                refine WL_guard_skip rfl rfl (by simp) rfl ?_
                                refine WL_pick_t rfl rfl rfl ?_
                                refine WL_nil ?_
                                have hq17 := Option.some.inj hr29
                                subst hq17
                                have hC59 : Ctx [] w0 _ [Item.box b1 [u3, (.int .i64 a3.2)], Item.own v19 (x32.2.2 : (List Int)), Item.own v17 (x31.2.1 : (List (Int × (List Int)))), Item.own v15 (x30.2 : (List (Int × (List Int) × Int × Int × Int))), Item.own v14 (x29.2 : (List Int)), Item.own v30 (x27.2 : (List Int)), Item.own v27 (x25.1 : (List (Int × (List Int)))), Item.own v24 (x23 : (List (Int × (List Int) × Int × Int × Int))), Item.own v23 (x21 : (List Int)), Item.box b7 [(.int .i64 x18.1.1.1), v22, (.int .i64 x18.1.2.1), (.int .i64 x18.1.2.2)], Item.own v22 (x18.1.1.2 : (List Int)), Item.box b6 [(.int .i64 x17.1), v19], Item.box b5 [v17, (.int .i64 x16.2)], Item.box b3 [(.int .i64 x5), v1, (.int .i64 x7), (.int .i64 x8)], Item.own v1 (x6 : (List Int)), Item.box b2 [(.int .i64 a4.1), u4]] := hC57.front 15 rfl
                                have hC60 : Ctx [] w0 _ [Item.box b2 [(.int .i64 a4.1), u4], Item.box b1 [u3, (.int .i64 a3.2)], Item.own v19 (x32.2.2 : (List Int)), Item.own v17 (x31.2.1 : (List (Int × (List Int)))), Item.own v15 (x30.2 : (List (Int × (List Int) × Int × Int × Int))), Item.own v14 (x29.2 : (List Int)), Item.own v30 (x27.2 : (List Int)), Item.own v27 (x25.1 : (List (Int × (List Int)))), Item.own v24 (x23 : (List (Int × (List Int) × Int × Int × Int))), Item.own v23 (x21 : (List Int)), Item.box b7 [(.int .i64 x18.1.1.1), v22, (.int .i64 x18.1.2.1), (.int .i64 x18.1.2.2)], Item.own v22 (x18.1.1.2 : (List Int)), Item.box b6 [(.int .i64 x17.1), v19], Item.box b5 [v17, (.int .i64 x16.2)], Item.box b3 [(.int .i64 x5), v1, (.int .i64 x7), (.int .i64 x8)], Item.own v1 (x6 : (List Int))] := hC59.front 15 rfl
                                have hC61 : Ctx [] w0 _ [Item.own v1 (x6 : (List Int)), Item.box b2 [(.int .i64 a4.1), u4], Item.box b1 [u3, (.int .i64 a3.2)], Item.own v19 (x32.2.2 : (List Int)), Item.own v17 (x31.2.1 : (List (Int × (List Int)))), Item.own v15 (x30.2 : (List (Int × (List Int) × Int × Int × Int))), Item.own v14 (x29.2 : (List Int)), Item.own v30 (x27.2 : (List Int)), Item.own v27 (x25.1 : (List (Int × (List Int)))), Item.own v24 (x23 : (List (Int × (List Int) × Int × Int × Int))), Item.own v23 (x21 : (List Int)), Item.box b7 [(.int .i64 x18.1.1.1), v22, (.int .i64 x18.1.2.1), (.int .i64 x18.1.2.2)], Item.own v22 (x18.1.1.2 : (List Int)), Item.box b6 [(.int .i64 x17.1), v19], Item.box b5 [v17, (.int .i64 x16.2)], Item.box b3 [(.int .i64 x5), v1, (.int .i64 x7), (.int .i64 x8)]] := hC60.front 15 rfl
                                have hC62 : Ctx [] w0 _ [Item.box b3 [(.int .i64 x5), v1, (.int .i64 x7), (.int .i64 x8)], Item.own v1 (x6 : (List Int)), Item.box b2 [(.int .i64 a4.1), u4], Item.box b1 [u3, (.int .i64 a3.2)], Item.own v19 (x32.2.2 : (List Int)), Item.own v17 (x31.2.1 : (List (Int × (List Int)))), Item.own v15 (x30.2 : (List (Int × (List Int) × Int × Int × Int))), Item.own v14 (x29.2 : (List Int)), Item.own v30 (x27.2 : (List Int)), Item.own v27 (x25.1 : (List (Int × (List Int)))), Item.own v24 (x23 : (List (Int × (List Int) × Int × Int × Int))), Item.own v23 (x21 : (List Int)), Item.box b7 [(.int .i64 x18.1.1.1), v22, (.int .i64 x18.1.2.1), (.int .i64 x18.1.2.2)], Item.own v22 (x18.1.1.2 : (List Int)), Item.box b6 [(.int .i64 x17.1), v19], Item.box b5 [v17, (.int .i64 x16.2)]] := hC61.front 15 rfl
                                have hC63 : Ctx [] w0 _ [Item.own v22 (x18.1.1.2 : (List Int)), Item.box b3 [(.int .i64 x5), v1, (.int .i64 x7), (.int .i64 x8)], Item.own v1 (x6 : (List Int)), Item.box b2 [(.int .i64 a4.1), u4], Item.box b1 [u3, (.int .i64 a3.2)], Item.own v19 (x32.2.2 : (List Int)), Item.own v17 (x31.2.1 : (List (Int × (List Int)))), Item.own v15 (x30.2 : (List (Int × (List Int) × Int × Int × Int))), Item.own v14 (x29.2 : (List Int)), Item.own v30 (x27.2 : (List Int)), Item.own v27 (x25.1 : (List (Int × (List Int)))), Item.own v24 (x23 : (List (Int × (List Int) × Int × Int × Int))), Item.own v23 (x21 : (List Int)), Item.box b7 [(.int .i64 x18.1.1.1), v22, (.int .i64 x18.1.2.1), (.int .i64 x18.1.2.2)], Item.box b6 [(.int .i64 x17.1), v19], Item.box b5 [v17, (.int .i64 x16.2)]] := hC62.front 13 rfl
                                have hC64 : Ctx [] w0 _ [Item.box b7 [(.int .i64 x18.1.1.1), v22, (.int .i64 x18.1.2.1), (.int .i64 x18.1.2.2)], Item.own v22 (x18.1.1.2 : (List Int)), Item.box b3 [(.int .i64 x5), v1, (.int .i64 x7), (.int .i64 x8)], Item.own v1 (x6 : (List Int)), Item.box b2 [(.int .i64 a4.1), u4], Item.box b1 [u3, (.int .i64 a3.2)], Item.own v19 (x32.2.2 : (List Int)), Item.own v17 (x31.2.1 : (List (Int × (List Int)))), Item.own v15 (x30.2 : (List (Int × (List Int) × Int × Int × Int))), Item.own v14 (x29.2 : (List Int)), Item.own v30 (x27.2 : (List Int)), Item.own v27 (x25.1 : (List (Int × (List Int)))), Item.own v24 (x23 : (List (Int × (List Int) × Int × Int × Int))), Item.own v23 (x21 : (List Int)), Item.box b6 [(.int .i64 x17.1), v19], Item.box b5 [v17, (.int .i64 x16.2)]] := hC63.front 13 rfl
                                have hC65 : Ctx [] w0 _ [Item.box b7 [(.int .i64 x18.1.1.1), v22, (.int .i64 x18.1.2.1), (.int .i64 x18.1.2.2)], Item.own v22 (x18.1.1.2 : (List Int)), Item.box b3 [(.int .i64 x5), v1, (.int .i64 x7), (.int .i64 x8)], Item.own v1 (x6 : (List Int)), Item.box b2 [(.int .i64 a4.1), u4], Item.box b1 [u3, (.int .i64 a3.2)]] := hC64.headN 6
                                refine nrm_sub (l' := [(0, u1), (1, u2), (6, (ptr b1 0)), (7, (ptr b2 0)), (10, (ptr b3 0)), (11, (.bool x4)), (16, (ptr b7 0)), (122, (.bool true))]) ⟨rfl, rfl, rfl, rfl, rfl, rfl, rfl, rfl, trivial⟩ ?_
                                exact ⟨true, rfl, rfl, (Below.refl _ _), hC65⟩
                              · replace hr29 := ite_f hr29 hc11
                                refine WL_guard rfl rfl ?_
                                refine WL_load_box_agg [(.int .i64 x18.1.1.1), v22, (.int .i64 x18.1.2.1), (.int .i64 x18.1.2.2)] hC57 8 rfl rfl rfl Try.isAgg97 Try.sizeOf97 rfl rfl ?_
                                refine WL_guard rfl rfl ?_
                                refine WL_load_box_agg [(.int .i64 x5), v1, (.int .i64 x7), (.int .i64 x8)] hC57 12 rfl rfl rfl Try.isAgg97 Try.sizeOf97 rfl rfl ?_
                                obtain ⟨x34, hr30, hr29⟩ := bind_some hr29
                                refine WL_guard rfl rfl ?_
                                refine WL_call Try.call63 rfl rfl (c_Q_eqCursor ((x18.1.1.1, x18.1.1.2), x18.1.2.1, x18.1.2.2) v22 ((hC57.ro 9 rfl).now (Keep.refl _ _)) ((x5, x6), x7, x8) v1 ((hC57.ro 13 rfl).now (Keep.refl _ _)) x34 hr30) ?_
                                intro _ w49 hv26
                                obtain ⟨rfl, hB41⟩ := res_bool hv26
                                have hC66 := hC57.grow hB41
                                refine WL_guard rfl rfl ?_
                                refine WL_not rfl rfl ?_
                                refine WL_pick_f rfl rfl rfl ?_
                                refine WL_move rfl rfl ?_
                                refine WL_fork (fun hc12 => ?_) (fun hc12 => ?_)
                                · replace hr29 := ite_t hr29 hc12
                                  refine WL_guard_skip rfl rfl (by simp) rfl ?_
                                  refine WL_guard_skip rfl rfl (by simp) rfl ?_
                                  refine WL_guard_skip rfl rfl (by simp) rfl ?_
                                  refine WL_pick_t rfl rfl rfl ?_
                                  refine WL_nil ?_
                                  have hq18 := Option.some.inj hr29
                                  subst hq18
                                  have hC67 : Ctx [] w0 _ [Item.box b1 [u3, (.int .i64 a3.2)], Item.own v19 (x32.2.2 : (List Int)), Item.own v17 (x31.2.1 : (List (Int × (List Int)))), Item.own v15 (x30.2 : (List (Int × (List Int) × Int × Int × Int))), Item.own v14 (x29.2 : (List Int)), Item.own v30 (x27.2 : (List Int)), Item.own v27 (x25.1 : (List (Int × (List Int)))), Item.own v24 (x23 : (List (Int × (List Int) × Int × Int × Int))), Item.own v23 (x21 : (List Int)), Item.box b7 [(.int .i64 x18.1.1.1), v22, (.int .i64 x18.1.2.1), (.int .i64 x18.1.2.2)], Item.own v22 (x18.1.1.2 : (List Int)), Item.box b6 [(.int .i64 x17.1), v19], Item.box b5 [v17, (.int .i64 x16.2)], Item.box b3 [(.int .i64 x5), v1, (.int .i64 x7), (.int .i64 x8)], Item.own v1 (x6 : (List Int)), Item.box b2 [(.int .i64 a4.1), u4]] := hC66.front 15 rfl
                                  have hC68 : Ctx [] w0 _ [Item.box b2 [(.int .i64 a4.1), u4], Item.box b1 [u3, (.int .i64 a3.2)], Item.own v19 (x32.2.2 : (List Int)), Item.own v17 (x31.2.1 : (List (Int × (List Int)))), Item.own v15 (x30.2 : (List (Int × (List Int) × Int × Int × Int))), Item.own v14 (x29.2 : (List Int)), Item.own v30 (x27.2 : (List Int)), Item.own v27 (x25.1 : (List (Int × (List Int)))), Item.own v24 (x23 : (List (Int × (List Int) × Int × Int × Int))), Item.own v23 (x21 : (List Int)), Item.box b7 [(.int .i64 x18.1.1.1), v22, (.int .i64 x18.1.2.1), (.int .i64 x18.1.2.2)], Item.own v22 (x18.1.1.2 : (List Int)), Item.box b6 [(.int .i64 x17.1), v19], Item.box b5 [v17, (.int .i64 x16.2)], Item.box b3 [(.int .i64 x5), v1, (.int .i64 x7), (.int .i64 x8)], Item.own v1 (x6 : (List Int))] := hC67.front 15 rfl
                                  have hC69 : Ctx [] w0 _ [Item.own v1 (x6 : (List Int)), Item.box b2 [(.int .i64 a4.1), u4], Item.box b1 [u3, (.int .i64 a3.2)], Item.own v19 (x32.2.2 : (List Int)), Item.own v17 (x31.2.1 : (List (Int × (List Int)))), Item.own v15 (x30.2 : (List (Int × (List Int) × Int × Int × Int))), Item.own v14 (x29.2 : (List Int)), Item.own v30 (x27.2 : (List Int)), Item.own v27 (x25.1 : (List (Int × (List Int)))), Item.own v24 (x23 : (List (Int × (List Int) × Int × Int × Int))), Item.own v23 (x21 : (List Int)), Item.box b7 [(.int .i64 x18.1.1.1), v22, (.int .i64 x18.1.2.1), (.int .i64 x18.1.2.2)], Item.own v22 (x18.1.1.2 : (List Int)), Item.box b6 [(.int .i64 x17.1), v19], Item.box b5 [v17, (.int .i64 x16.2)], Item.box b3 [(.int .i64 x5), v1, (.int .i64 x7), (.int .i64 x8)]] := hC68.front 15 rfl
                                  have hC70 : Ctx [] w0 _ [Item.box b3 [(.int .i64 x5), v1, (.int .i64 x7), (.int .i64 x8)], Item.own v1 (x6 : (List Int)), Item.box b2 [(.int .i64 a4.1), u4], Item.box b1 [u3, (.int .i64 a3.2)], Item.own v19 (x32.2.2 : (List Int)), Item.own v17 (x31.2.1 : (List (Int × (List Int)))), Item.own v15 (x30.2 : (List (Int × (List Int) × Int × Int × Int))), Item.own v14 (x29.2 : (List Int)), Item.own v30 (x27.2 : (List Int)), Item.own v27 (x25.1 : (List (Int × (List Int)))), Item.own v24 (x23 : (List (Int × (List Int) × Int × Int × Int))), Item.own v23 (x21 : (List Int)), Item.box b7 [(.int .i64 x18.1.1.1), v22, (.int .i64 x18.1.2.1), (.int .i64 x18.1.2.2)], Item.own v22 (x18.1.1.2 : (List Int)), Item.box b6 [(.int .i64 x17.1), v19], Item.box b5 [v17, (.int .i64 x16.2)]] := hC69.front 15 rfl
                                  have hC71 : Ctx [] w0 _ [Item.own v22 (x18.1.1.2 : (List Int)), Item.box b3 [(.int .i64 x5), v1, (.int .i64 x7), (.int .i64 x8)], Item.own v1 (x6 : (List Int)), Item.box b2 [(.int .i64 a4.1), u4], Item.box b1 [u3, (.int .i64 a3.2)], Item.own v19 (x32.2.2 : (List Int)), Item.own v17 (x31.2.1 : (List (Int × (List Int)))), Item.own v15 (x30.2 : (List (Int × (List Int) × Int × Int × Int))), Item.own v14 (x29.2 : (List Int)), Item.own v30 (x27.2 : (List Int)), Item.own v27 (x25.1 : (List (Int × (List Int)))), Item.own v24 (x23 : (List (Int × (List Int) × Int × Int × Int))), Item.own v23 (x21 : (List Int)), Item.box b7 [(.int .i64 x18.1.1.1), v22, (.int .i64 x18.1.2.1), (.int .i64 x18.1.2.2)], Item.box b6 [(.int .i64 x17.1), v19], Item.box b5 [v17, (.int .i64 x16.2)]] := hC70.front 13 rfl
                                  have hC72 : Ctx [] w0 _ [Item.box b7 [(.int .i64 x18.1.1.1), v22, (.int .i64 x18.1.2.1), (.int .i64 x18.1.2.2)], Item.own v22 (x18.1.1.2 : (List Int)), Item.box b3 [(.int .i64 x5), v1, (.int .i64 x7), (.int .i64 x8)], Item.own v1 (x6 : (List Int)), Item.box b2 [(.int .i64 a4.1), u4], Item.box b1 [u3, (.int .i64 a3.2)], Item.own v19 (x32.2.2 : (List Int)), Item.own v17 (x31.2.1 : (List (Int × (List Int)))), Item.own v15 (x30.2 : (List (Int × (List Int) × Int × Int × Int))), Item.own v14 (x29.2 : (List Int)), Item.own v30 (x27.2 : (List Int)), Item.own v27 (x25.1 : (List (Int × (List Int)))), Item.own v24 (x23 : (List (Int × (List Int) × Int × Int × Int))), Item.own v23 (x21 : (List Int)), Item.box b6 [(.int .i64 x17.1), v19], Item.box b5 [v17, (.int .i64 x16.2)]] := hC71.front 13 rfl
                                  have hC73 : Ctx [] w0 _ [Item.box b7 [(.int .i64 x18.1.1.1), v22, (.int .i64 x18.1.2.1), (.int .i64 x18.1.2.2)], Item.own v22 (x18.1.1.2 : (List Int)), Item.box b3 [(.int .i64 x5), v1, (.int .i64 x7), (.int .i64 x8)], Item.own v1 (x6 : (List Int)), Item.box b2 [(.int .i64 a4.1), u4], Item.box b1 [u3, (.int .i64 a3.2)]] := hC72.headN 6
                                  refine nrm_sub (l' := [(0, u1), (1, u2), (6, (ptr b1 0)), (7, (ptr b2 0)), (10, (ptr b3 0)), (11, (.bool x4)), (16, (ptr b7 0)), (122, (.bool true))]) ⟨rfl, rfl, rfl, rfl, rfl, rfl, rfl, rfl, trivial⟩ ?_
                                  exact ⟨true, rfl, rfl, (Keep.of hB41).below, hC73⟩
                                · replace hr29 := ite_f hr29 hc12
                                  refine WL_guard rfl rfl ?_
                                  refine WL_move rfl rfl ?_
                                  refine WL_guard rfl rfl ?_
                                  refine WL_move rfl rfl ?_
                                  refine WL_guard rfl rfl ?_
                                  refine WL_bool_neq Try.underlying4 rfl rfl rfl ?_
                                  refine WL_pick_f rfl rfl rfl ?_
                                  refine WL_nil ?_
                                  have hq19 := Option.some.inj hr29
                                  subst hq19
                                  have hC74 : Ctx [] w0 _ [Item.box b1 [u3, (.int .i64 a3.2)], Item.own v19 (x32.2.2 : (List Int)), Item.own v17 (x31.2.1 : (List (Int × (List Int)))), Item.own v15 (x30.2 : (List (Int × (List Int) × Int × Int × Int))), Item.own v14 (x29.2 : (List Int)), Item.own v30 (x27.2 : (List Int)), Item.own v27 (x25.1 : (List (Int × (List Int)))), Item.own v24 (x23 : (List (Int × (List Int) × Int × Int × Int))), Item.own v23 (x21 : (List Int)), Item.box b7 [(.int .i64 x18.1.1.1), v22, (.int .i64 x18.1.2.1), (.int .i64 x18.1.2.2)], Item.own v22 (x18.1.1.2 : (List Int)), Item.box b6 [(.int .i64 x17.1), v19], Item.box b5 [v17, (.int .i64 x16.2)], Item.box b3 [(.int .i64 x5), v1, (.int .i64 x7), (.int .i64 x8)], Item.own v1 (x6 : (List Int)), Item.box b2 [(.int .i64 a4.1), u4]] := hC66.front 15 rfl
                                  have hC75 : Ctx [] w0 _ [Item.box b2 [(.int .i64 a4.1), u4], Item.box b1 [u3, (.int .i64 a3.2)], Item.own v19 (x32.2.2 : (List Int)), Item.own v17 (x31.2.1 : (List (Int × (List Int)))), Item.own v15 (x30.2 : (List (Int × (List Int) × Int × Int × Int))), Item.own v14 (x29.2 : (List Int)), Item.own v30 (x27.2 : (List Int)), Item.own v27 (x25.1 : (List (Int × (List Int)))), Item.own v24 (x23 : (List (Int × (List Int) × Int × Int × Int))), Item.own v23 (x21 : (List Int)), Item.box b7 [(.int .i64 x18.1.1.1), v22, (.int .i64 x18.1.2.1), (.int .i64 x18.1.2.2)], Item.own v22 (x18.1.1.2 : (List Int)), Item.box b6 [(.int .i64 x17.1), v19], Item.box b5 [v17, (.int .i64 x16.2)], Item.box b3 [(.int .i64 x5), v1, (.int .i64 x7), (.int .i64 x8)], Item.own v1 (x6 : (List Int))] := hC74.front 15 rfl
                                  have hC76 : Ctx [] w0 _ [Item.own v1 (x6 : (List Int)), Item.box b2 [(.int .i64 a4.1), u4], Item.box b1 [u3, (.int .i64 a3.2)], Item.own v19 (x32.2.2 : (List Int)), Item.own v17 (x31.2.1 : (List (Int × (List Int)))), Item.own v15 (x30.2 : (List (Int × (List Int) × Int × Int × Int))), Item.own v14 (x29.2 : (List Int)), Item.own v30 (x27.2 : (List Int)), Item.own v27 (x25.1 : (List (Int × (List Int)))), Item.own v24 (x23 : (List (Int × (List Int) × Int × Int × Int))), Item.own v23 (x21 : (List Int)), Item.box b7 [(.int .i64 x18.1.1.1), v22, (.int .i64 x18.1.2.1), (.int .i64 x18.1.2.2)], Item.own v22 (x18.1.1.2 : (List Int)), Item.box b6 [(.int .i64 x17.1), v19], Item.box b5 [v17, (.int .i64 x16.2)], Item.box b3 [(.int .i64 x5), v1, (.int .i64 x7), (.int .i64 x8)]] := hC75.front 15 rfl
                                  have hC77 : Ctx [] w0 _ [Item.box b3 [(.int .i64 x5), v1, (.int .i64 x7), (.int .i64 x8)], Item.own v1 (x6 : (List Int)), Item.box b2 [(.int .i64 a4.1), u4], Item.box b1 [u3, (.int .i64 a3.2)], Item.own v19 (x32.2.2 : (List Int)), Item.own v17 (x31.2.1 : (List (Int × (List Int)))), Item.own v15 (x30.2 : (List (Int × (List Int) × Int × Int × Int))), Item.own v14 (x29.2 : (List Int)), Item.own v30 (x27.2 : (List Int)), Item.own v27 (x25.1 : (List (Int × (List Int)))), Item.own v24 (x23 : (List (Int × (List Int) × Int × Int × Int))), Item.own v23 (x21 : (List Int)), Item.box b7 [(.int .i64 x18.1.1.1), v22, (.int .i64 x18.1.2.1), (.int .i64 x18.1.2.2)], Item.own v22 (x18.1.1.2 : (List Int)), Item.box b6 [(.int .i64 x17.1), v19], Item.box b5 [v17, (.int .i64 x16.2)]] := hC76.front 15 rfl
                                  have hC78 : Ctx [] w0 _ [Item.own v22 (x18.1.1.2 : (List Int)), Item.box b3 [(.int .i64 x5), v1, (.int .i64 x7), (.int .i64 x8)], Item.own v1 (x6 : (List Int)), Item.box b2 [(.int .i64 a4.1), u4], Item.box b1 [u3, (.int .i64 a3.2)], Item.own v19 (x32.2.2 : (List Int)), Item.own v17 (x31.2.1 : (List (Int × (List Int)))), Item.own v15 (x30.2 : (List (Int × (List Int) × Int × Int × Int))), Item.own v14 (x29.2 : (List Int)), Item.own v30 (x27.2 : (List Int)), Item.own v27 (x25.1 : (List (Int × (List Int)))), Item.own v24 (x23 : (List (Int × (List Int) × Int × Int × Int))), Item.own v23 (x21 : (List Int)), Item.box b7 [(.int .i64 x18.1.1.1), v22, (.int .i64 x18.1.2.1), (.int .i64 x18.1.2.2)], Item.box b6 [(.int .i64 x17.1), v19], Item.box b5 [v17, (.int .i64 x16.2)]] := hC77.front 13 rfl
                                  have hC79 : Ctx [] w0 _ [Item.box b7 [(.int .i64 x18.1.1.1), v22, (.int .i64 x18.1.2.1), (.int .i64 x18.1.2.2)], Item.own v22 (x18.1.1.2 : (List Int)), Item.box b3 [(.int .i64 x5), v1, (.int .i64 x7), (.int .i64 x8)], Item.own v1 (x6 : (List Int)), Item.box b2 [(.int .i64 a4.1), u4], Item.box b1 [u3, (.int .i64 a3.2)], Item.own v19 (x32.2.2 : (List Int)), Item.own v17 (x31.2.1 : (List (Int × (List Int)))), Item.own v15 (x30.2 : (List (Int × (List Int) × Int × Int × Int))), Item.own v14 (x29.2 : (List Int)), Item.own v30 (x27.2 : (List Int)), Item.own v27 (x25.1 : (List (Int × (List Int)))), Item.own v24 (x23 : (List (Int × (List Int) × Int × Int × Int))), Item.own v23 (x21 : (List Int)), Item.box b6 [(.int .i64 x17.1), v19], Item.box b5 [v17, (.int .i64 x16.2)]] := hC78.front 13 rfl
                                  have hC80 : Ctx [] w0 _ [Item.box b7 [(.int .i64 x18.1.1.1), v22, (.int .i64 x18.1.2.1), (.int .i64 x18.1.2.2)], Item.own v22 (x18.1.1.2 : (List Int)), Item.box b3 [(.int .i64 x5), v1, (.int .i64 x7), (.int .i64 x8)], Item.own v1 (x6 : (List Int)), Item.box b2 [(.int .i64 a4.1), u4], Item.box b1 [u3, (.int .i64 a3.2)]] := hC79.headN 6
                                  refine nrm_sub (l' := [(0, u1), (1, u2), (6, (ptr b1 0)), (7, (ptr b2 0)), (10, (ptr b3 0)), (11, (.bool x4)), (16, (ptr b7 0)), (122, (.bool (!decide (x18.2 = x4))))]) ⟨rfl, rfl, rfl, rfl, rfl, rfl, rfl, rfl, trivial⟩ ?_
                                  exact ⟨(!decide (x18.2 = x4)), rfl, rfl, (Keep.of hB41).below, hC80⟩
                            · rintro _ w48 ⟨x33, rfl, rfl, hB40, hC58⟩
                              try dsimp only at hF
                              refine W_cond rfl (fun hc13 => ?_) (fun hc13 => ?_)
                              · replace hF := ite_t hF hc13
                                refine W_seq_reg ?_
                                refine WL_assign rfl rfl ?_
                                refine WL_nil ?_
                                refine W_ret ?_
                                refine nrm_ret ?_
                                have hq20 := Option.some.inj hF
                                subst hq20
                                refine fn_ret1 rfl rfl ?_
                                exact ⟨_, rfl, bool_res hC58 _⟩
                              · replace hF := ite_f hF hc13
                                refine W_skip ?_
                                refine nrm_normal ?_
                                refine W_seq_reg ?_
                                refine WL_assign rfl rfl ?_
                                refine WL_nil ?_
                                refine W_seq_reg ?_
                                refine WL_load_box_agg [(.int .i64 x18.1.1.1), v22, (.int .i64 x18.1.2.1), (.int .i64 x18.1.2.2)] hC58 0 rfl rfl rfl Try.isAgg97 Try.sizeOf97 rfl rfl ?_
                                refine WL_move rfl rfl ?_
                                obtain ⟨x35, hr31, hF⟩ := bind_some hF
                                have hC81 : Ctx [] w0 _ [Item.own v22 (x18.1.1.2 : (List Int)), Item.box b7 [(.int .i64 x18.1.1.1), v22, (.int .i64 x18.1.2.1), (.int .i64 x18.1.2.2)], Item.box b3 [(.int .i64 x5), v1, (.int .i64 x7), (.int .i64 x8)], Item.own v1 (x6 : (List Int)), Item.box b2 [(.int .i64 a4.1), u4], Item.box b1 [u3, (.int .i64 a3.2)]] := hC58.front 1 rfl
                                obtain ⟨Fs5, hH5, hn22, hF5, hO5, hb22⟩ := Ctx.lend2 (As := [Item.box b7 [(.int .i64 x18.1.1.1), v22, (.int .i64 x18.1.2.1), (.int .i64 x18.1.2.2)], Item.box b3 [(.int .i64 x5), v1, (.int .i64 x7), (.int .i64 x8)], Item.own v1 (x6 : (List Int)), Item.box b2 [(.int .i64 a4.1), u4], Item.box b1 [u3, (.int .i64 a3.2)]]) [Item.own v22 (x18.1.1.2 : (List Int))] hC81
                                refine WL_call Try.call67 rfl rfl (c_Q_markCursor ((x18.1.1.1, x18.1.1.2), x18.1.2.1, x18.1.2.2) v22 1 hH5 hn22 x35 hr31) ?_
                                rintro _ w50 ⟨rfl, hq21⟩
                                have hC82 : Ctx [] w0 w50 [Item.own v22 (x35.2.1.2 : (List Int)), Item.box b7 [(.int .i64 x18.1.1.1), v22, (.int .i64 x18.1.2.1), (.int .i64 x18.1.2.2)], Item.box b3 [(.int .i64 x5), v1, (.int .i64 x7), (.int .i64 x8)], Item.own v1 (x6 : (List Int)), Item.box b2 [(.int .i64 a4.1), u4], Item.box b1 [u3, (.int .i64 a3.2)]] := hb22 _ _ hq21
                                refine WL_assign rfl rfl ?_
                                refine WL_nil ?_
                                refine W_seq_reg ?_
                                refine WL_assign rfl rfl ?_
                                refine WL_nil ?_
                                refine W_seq_reg ?_
                                refine WL_load_box_agg [(.int .i64 x18.1.1.1), v22, (.int .i64 x18.1.2.1), (.int .i64 x18.1.2.2)] hC82 1 rfl rfl rfl Try.isAgg97 Try.sizeOf97 rfl rfl ?_
                                refine WL_move rfl rfl ?_
                                obtain ⟨x36, hr32, hF⟩ := bind_some hF
                                refine WL_call Try.call68 rfl rfl (c_Q_heldCursor ((x18.1.1.1, x35.2.1.2), x18.1.2.1, x18.1.2.2) v22 ((hC82.ro 0 rfl).now (Keep.refl _ _)) 1 x36 hr32) ?_
                                intro _ w51 hv27
                                obtain ⟨rfl, hB42⟩ := res_int hv27
                                have hC83 := hC82.grow hB42
                                refine WL_assign rfl rfl ?_
                                refine WL_nil ?_
                                refine W_seq ?_
                                refine W_seq_reg ?_
                                refine WL_move rfl rfl ?_
                                refine WL_lss rfl rfl rfl ?_
                                refine WL_nil ?_
                                refine W_cond rfl (fun hc14 => ?_) (fun hc14 => ?_)
                                · replace hF := ite_t hF hc14
                                  refine W_seq_reg ?_
                                  refine WL_assign rfl rfl ?_
                                  refine WL_nil ?_
                                  refine W_ret ?_
                                  refine nrm_ret ?_
                                  have hq22 := Option.some.inj hF
                                  subst hq22
                                  refine fn_ret1 rfl rfl ?_
                                  exact ⟨_, rfl, bool_res hC83 _⟩
                                · replace hF := ite_f hF hc14
                                  refine W_skip ?_
                                  refine nrm_normal ?_
                                  refine W_seq ?_
                                  refine W_seq_reg ?_
                                  refine WL_move rfl rfl ?_
                                  refine WL_move rfl rfl ?_
                                  refine WL_neq rfl rfl rfl ?_
                                  refine WL_nil ?_
                                  refine W_cond rfl (fun hc15 => ?_) (fun hc15 => ?_)
                                  · replace hF := ite_t hF hc15
                                    refine W_seq_reg ?_
                                    refine WL_assign rfl rfl ?_
                                    refine WL_nil ?_
                                    refine W_ret ?_
                                    refine nrm_ret ?_
                                    have hq23 := Option.some.inj hF
                                    subst hq23
                                    refine fn_ret1 rfl rfl ?_
                                    exact ⟨_, rfl, bool_res hC83 _⟩
                                  · replace hF := ite_f hF hc15
                                    refine W_skip ?_
                                    refine nrm_normal ?_
                                    obtain ⟨r4, hr33, hF⟩ := bind_some hF
                                    refine W_cut (fun l w => ∃ x37 : Bool, ∃ b8 : Nat, ∃ x38 : Int, ∃ v31 : Value, ∃ x39 : (List Int), ∃ x40 : Int, ∃ x41 : Int, (x37, x38, x39, x40, x41) = r4 ∧ l = [(10, (ptr b3 0)), (11, (.bool x4)), (16, (ptr b7 0)), (19, (.int .i64 x35.1)), (21, (ptr b8 0)), (22, (.bool x37))] ∧ Ctx [] w0 w [Item.box b8 [(.int .i64 x38), v31, (.int .i64 x40), (.int .i64 x41)], Item.own v31 (x39 : (List Int)), Item.own v22 (x35.2.1.2 : (List Int)), Item.box b7 [(.int .i64 x18.1.1.1), v22, (.int .i64 x18.1.2.1), (.int .i64 x18.1.2.2)], Item.box b3 [(.int .i64 x5), v1, (.int .i64 x7), (.int .i64 x8)], Item.own v1 (x6 : (List Int))]) ?_ ?_
                                    · refine W_drawn 15 rfl hmix (fun w53 hB44 => ?_)
                                      have hC85 := hC83.grow hB44
                                      refine WA_take 0 rfl (by kernel_rfl) (by kernel_rfl) (by kernel_rfl) rfl (fl_move rfl) ?_
                                      refine WL_move rfl rfl ?_
                                      refine WL_nil ?_
                                      refine WA_take 2 rfl (by kernel_rfl) (by kernel_rfl) (by kernel_rfl) rfl (fl_move rfl) ?_
                                      refine WL_move rfl rfl ?_
                                      refine WL_nil ?_
                                      obtain ⟨x42, hr34, hr33⟩ := bind_some hr33
                                      obtain ⟨x43, hr35, hr33⟩ := bind_some hr33
                                      obtain ⟨x44, hr36, hr33⟩ := bind_some hr33
                                      obtain ⟨x45, hr37, hr33⟩ := bind_some hr33
                                      obtain ⟨x46, hr38, hr33⟩ := bind_some hr33
                                      refine WA.sub (l' := [(0, u1), (1, u2), (6, (ptr b1 0)), (7, (ptr b2 0)), (10, (ptr b3 0)), (11, (.bool x4)), (16, (ptr b7 0)), (19, (.int .i64 x35.1)), (20, (.int .i64 x36)), (122, (.bool x33)), (123, (.agg #[(.int .i64 x18.1.1.1), v22, (.int .i64 x18.1.2.1), (.int .i64 x18.1.2.2)])), (124, (.int .i64 1)), (125, (.int .i64 x35.1)), (126, (.agg #[(.int .i64 x18.1.1.1), v22, (.int .i64 x18.1.2.1), (.int .i64 x18.1.2.2)])), (127, (.int .i64 1)), (128, (.int .i64 x36)), (129, (.int .i64 x36)), (130, (.bool (decide (x36 < 0)))), (131, (.int .i64 x36)), (132, (.int .i64 x35.1)), (133, (.bool (!decide (x36 = x35.1)))), (135, u1), (137, u2)]) ?_ ⟨rfl, rfl, rfl, rfl, rfl, rfl, rfl, rfl, rfl, rfl, rfl, rfl, rfl, rfl, rfl, rfl, rfl, rfl, rfl, rfl, rfl, rfl, rfl, trivial⟩
                                      refine WA_postsO [⟨1, [], fun vs => PW.own x42, []⟩, ⟨3, [], fun vs => PW.own x43, []⟩, ⟨4, [], fun vs => PW.val (.agg #[u3, (.int .i64 a3.2)]), []⟩, ⟨5, [], fun vs => PW.own x44, []⟩, ⟨6, [], fun vs => PW.val (.agg #[(.int .i64 a4.1), u4]), []⟩, ⟨7, [], fun vs => PW.own x45, []⟩, ⟨8, [], fun vs => PW.own2 (x46.1 : ((Int × (List Int)) × Int × Int)) (x46.2 : Bool), []⟩, ⟨9, [143], fun vs => PW.val (vs.getD 0 undef), []⟩, ⟨10, [134], fun vs => PW.comp (vs.getD 0 undef) 0, []⟩, ⟨11, [134], fun vs => PW.comp (vs.getD 0 undef) 1, []⟩, ⟨12, [], fun vs => PW.box [(.int .i64 0), (.slice none 0 0), (.int .i64 0), (.int .i64 0)], []⟩] [[], [], [], [4], [], [6], [1, 3, 5, 7], [8], [8, 9], [8, 9], []] [11] 2 rfl (by kernel_rfl) (by kernel_rfl) ?_ ⟨?_, ?_, trivial⟩
                                      · refine StepsE_cons rfl ?_ ?_
                                        · intro w60 hB51
                                          refine DepsE_nil ?_
                                          refine ⟨_, rfl, ?_⟩
                                          refine WL_call Try.call15 rfl rfl (c_Q_toIntS a1 u1 (g1.now (hC85.keep.then hB51)) x42 hr34) ?_
                                          rintro v32 w54 ⟨hB45, F18, hv28, hn23, hb23⟩
                                          refine WL_nil ?_
                                          exact FinE_own hB45 rfl rfl hv28 hn23 hb23 (Val.inh hv28)
                                        refine StepsE_cons rfl ?_ ?_
                                        · intro w60 hB51
                                          refine DepsE_nil ?_
                                          refine ⟨_, rfl, ?_⟩
                                          refine WL_call Try.call16 rfl rfl (c_Q_toMethodS a2 u2 (g2.now (hC85.keep.then hB51)) x43 hr35) ?_
                                          rintro v33 w55 ⟨hB46, F19, hv29, hn24, hb24⟩
                                          refine WL_nil ?_
                                          exact FinE_own hB46 rfl rfl hv29 hn24 hb24 (Val.inh hv29)
                                        refine StepsE_cons rfl ?_ ?_
                                        · intro w60 hB51
                                          refine DepsE_nil ?_
                                          refine ⟨_, rfl, ?_⟩
                                          refine WL_load_box_agg [u3, (.int .i64 a3.2)] (hC85.grow hB51) 5 rfl rfl rfl Try.isAgg65 Try.sizeOf65 rfl rfl ?_
                                          refine WL_nil ?_
                                          exact FinE_val (Below.refl _ _) rfl rfl ⟨rfl, rfl⟩
                                        refine StepsE_cons rfl ?_ ?_
                                        · intro w60 hB51
                                          refine DepsE_cons rfl rfl rfl ?_
                                          rintro _ _ ⟨rfl, rfl⟩ _
                                          refine DepsE_nil ?_
                                          refine ⟨_, rfl, ?_⟩
                                          refine WL_call Try.call44 rfl rfl (c_Q_toSource (a3.1, a3.2) u3 (g3.now (hC85.keep.then hB51)) x44 hr36) ?_
                                          rintro v34 w56 ⟨hB47, F20, hv30, hn25, hb25⟩
                                          refine WL_nil ?_
                                          exact FinE_own hB47 rfl rfl hv30 hn25 hb25 (Val.inh hv30)
                                        refine StepsE_cons rfl ?_ ?_
                                        · intro w60 hB51
                                          refine DepsE_nil ?_
                                          refine ⟨_, rfl, ?_⟩
                                          refine WL_load_box_agg [(.int .i64 a4.1), u4] (hC85.grow hB51) 4 rfl rfl rfl Try.isAgg25 Try.sizeOf25 rfl rfl ?_
                                          refine WL_nil ?_
                                          exact FinE_val (Below.refl _ _) rfl rfl ⟨rfl, rfl⟩
                                        refine StepsE_cons rfl ?_ ?_
                                        · intro w60 hB51
                                          refine DepsE_cons rfl rfl rfl ?_
                                          rintro _ _ ⟨rfl, rfl⟩ _
                                          refine DepsE_nil ?_
                                          refine ⟨_, rfl, ?_⟩
                                          refine WL_call Try.call61 rfl rfl (c_Q_toAccess (a4.1, a4.2) u4 (g4.now (hC85.keep.then hB51)) x45 hr37) ?_
                                          rintro v36 w57 ⟨hB48, F21, hv31, hn26, hb26⟩
                                          refine WL_nil ?_
                                          exact FinE_own hB48 rfl rfl hv31 hn26 hb26 (Val.inh hv31)
                                        refine StepsE_cons rfl ?_ ?_
                                        · intro w60 hB51
                                          refine DepsE_cons rfl rfl rfl ?_
                                          intro v32 F18 hv28 _
                                          refine DepsE_cons rfl rfl rfl ?_
                                          intro v33 F19 hv29 _
                                          refine DepsE_cons rfl rfl rfl ?_
                                          intro v34 F20 hv30 _
                                          obtain ⟨v35, rfl, h6⟩ := ro_st73 (ro_of_own hv30)
                                          refine DepsE_cons rfl rfl rfl ?_
                                          intro v36 F21 hv31 _
                                          obtain ⟨v37, rfl, h7⟩ := ro_st35 (ro_of_own hv31)
                                          refine DepsE_nil ?_
                                          refine ⟨_, rfl, ?_⟩
                                          refine WL_call Try.call62 rfl rfl (c_M_OpenCursor x42 v32 (ro_of_own hv28) x43 v33 (ro_of_own hv29) x44 v35 (h6.now (Keep.refl _ _)) x45 v37 (h7.now (Keep.refl _ _)) x46 hr38) ?_
                                          rintro _ w58 ⟨hB49, v38, v39, F22, F23, rfl, hv32, hv33, hn27, hb27⟩
                                          refine WL_nil ?_
                                          exact FinE_own (F := F22 ++ F23) hB49 rfl rfl ⟨_, _, _, _, rfl, rfl, hv32, hv33⟩ (by simpa using hn27) (fun b h => hb27 b (by simpa using h)) (fun b h => by simp only [List.mem_append] at h; rcases h with h | h <;> first | exact Val.inh hv32 b h | exact Val.inh hv33 b h)
                                        refine StepsE_cons rfl ?_ ?_
                                        · intro w60 hB51
                                          refine DepsE_cons rfl rfl rfl ?_
                                          rintro _ _ ⟨v38, v39, F22, F23, rfl, rfl, hv32, hv33⟩ _
                                          obtain ⟨rfl, rfl⟩ := val_bool hv33
                                          obtain ⟨v40, rfl, h8⟩ := ro_st97 (ro_of_own hv32)
                                          refine DepsE_nil ?_
                                          refine ⟨_, rfl, ?_⟩
                                          refine WL_move rfl rfl ?_
                                          refine WL_nil ?_
                                          exact FinE_val (Below.refl _ _) rfl rfl ⟨rfl, rfl⟩
                                        refine StepsE_cons rfl ?_ ?_
                                        · intro w60 hB51
                                          refine DepsE_cons rfl rfl rfl ?_
                                          rintro _ _ ⟨v38, v39, F22, F23, rfl, rfl, hv32, hv33⟩ _
                                          obtain ⟨rfl, rfl⟩ := val_bool hv33
                                          obtain ⟨v40, rfl, h8⟩ := ro_st97 (ro_of_own hv32)
                                          refine DepsE_cons rfl rfl rfl ?_
                                          rintro _ _ ⟨rfl, rfl⟩ _
                                          refine DepsE_nil ?_
                                          refine ⟨_, rfl, ?_⟩
                                          refine WL_extract rfl rfl rfl ?_
                                          refine WL_nil ?_
                                          exact FinE_val (Below.refl _ _) rfl rfl ⟨⟨_, rfl, rfl⟩, rfl⟩
                                        refine StepsE_cons rfl ?_ ?_
                                        · intro w60 hB51
                                          refine DepsE_cons rfl rfl rfl ?_
                                          rintro _ _ ⟨v38, v39, F22, F23, rfl, rfl, hv32, hv33⟩ _
                                          obtain ⟨rfl, rfl⟩ := val_bool hv33
                                          obtain ⟨v40, rfl, h8⟩ := ro_st97 (ro_of_own hv32)
                                          refine DepsE_cons rfl rfl rfl ?_
                                          rintro _ _ ⟨rfl, rfl⟩ _
                                          refine DepsE_nil ?_
                                          refine ⟨_, rfl, ?_⟩
                                          refine WL_extract rfl rfl rfl ?_
                                          refine WL_nil ?_
                                          exact FinE_val (Below.refl _ _) rfl rfl ⟨⟨_, rfl, rfl⟩, rfl⟩
                                        refine StepsE_cons rfl ?_ ?_
                                        · intro w60 hB51
                                          refine DepsE_nil ?_
                                          refine ⟨_, rfl, ?_⟩
                                          refine WL_alloc (Ctx.start _) zero97 rfl rfl (fun b9 w59 hC86 hB50 => ?_)
                                          refine WL_nil ?_
                                          exact FinE_ctx hC86 rfl rfl (fun F h => ⟨b9, rfl, h⟩)
                                        exact StepsE_nil
                                      · intro g' hg'
                                        obtain rfl : g' = 2 := hg'
                                        intro w61 hB52
                                        refine AllE_cons rfl rfl rfl ?_
                                        intro v32 F18 hv28
                                        refine AllE_cons rfl rfl rfl ?_
                                        intro v33 F19 hv29
                                        refine AllE_cons rfl rfl rfl ?_
                                        rintro _ _ ⟨rfl, rfl⟩
                                        refine AllE_cons rfl rfl rfl ?_
                                        intro v34 F20 hv30
                                        refine AllE_cons rfl rfl rfl ?_
                                        rintro _ _ ⟨rfl, rfl⟩
                                        refine AllE_cons rfl rfl rfl ?_
                                        intro v36 F21 hv31
                                        refine AllE_cons rfl rfl rfl ?_
                                        rintro _ _ ⟨v38, v39, F22, F23, rfl, rfl, hv32, hv33⟩
                                        obtain ⟨rfl, rfl⟩ := val_bool hv33
                                        refine AllE_cons rfl rfl rfl ?_
                                        rintro _ _ ⟨rfl, rfl⟩
                                        refine AllE_cons rfl rfl rfl ?_
                                        rintro _ _ ⟨⟨_, hx5, hx6⟩, rfl⟩
                                        obtain rfl := Value.tuple.inj hx5
                                        obtain rfl := Option.some.inj (show (some v38 : Option Value) = some _ from hx6)
                                        refine AllE_cons rfl rfl rfl ?_
                                        rintro _ _ ⟨⟨_, hx7, hx8⟩, rfl⟩
                                        obtain rfl := Value.tuple.inj hx7
                                        obtain rfl := Option.some.inj (show (some (.bool x46.2) : Option Value) = some _ from hx8)
                                        refine AllE_cons rfl rfl rfl ?_
                                        rintro _ F24 ⟨b9, rfl, hv34⟩
                                        refine AllE_nil ?_
                                        intro hn28 hb28
                                        have hC87 := hC85.pushL hB52 (Bs := [Item.box b9 [(.int .i64 0), (.slice none 0 0), (.int .i64 0), (.int .i64 0)], Item.own v38 (x46.1 : ((Int × (List Int)) × Int × Int)), Item.own v36 (x45 : (Int × (List Int))), Item.own v34 (x44 : ((List (Int × (List Int))) × Int)), Item.own v33 (x43 : (List (Int × (List Int) × Int × Int × Int))), Item.own v32 (x42 : (List Int))]) (Fs := [F24, F22, F21, F20, F19, F18]) ⟨F24, _, rfl, hv34, F22, _, rfl, hv32, F21, _, rfl, hv31, F20, _, rfl, hv30, F19, _, rfl, hv29, F18, _, rfl, hv28, rfl⟩ (by simpa using hn28) (fun b h => (hb28 b (by simpa using h)).1)
                                        have hC88 : Ctx [] w0 _ [Item.own v34 (x44 : ((List (Int × (List Int))) × Int)), Item.box b9 [(.int .i64 0), (.slice none 0 0), (.int .i64 0), (.int .i64 0)], Item.own v38 (x46.1 : ((Int × (List Int)) × Int × Int)), Item.own v36 (x45 : (Int × (List Int))), Item.own v33 (x43 : (List (Int × (List Int) × Int × Int × Int))), Item.own v32 (x42 : (List Int)), Item.own v22 (x35.2.1.2 : (List Int)), Item.box b7 [(.int .i64 x18.1.1.1), v22, (.int .i64 x18.1.2.1), (.int .i64 x18.1.2.2)], Item.box b3 [(.int .i64 x5), v1, (.int .i64 x7), (.int .i64 x8)], Item.own v1 (x6 : (List Int)), Item.box b2 [(.int .i64 a4.1), u4], Item.box b1 [u3, (.int .i64 a3.2)]] := hC87.front 3 rfl
                                        obtain ⟨v41, rfl, hC89⟩ := st73_own hC88
                                        have hC90 : Ctx [] w0 _ [Item.own v36 (x45 : (Int × (List Int))), Item.own v41 (x44.1 : (List (Int × (List Int)))), Item.box b9 [(.int .i64 0), (.slice none 0 0), (.int .i64 0), (.int .i64 0)], Item.own v38 (x46.1 : ((Int × (List Int)) × Int × Int)), Item.own v33 (x43 : (List (Int × (List Int) × Int × Int × Int))), Item.own v32 (x42 : (List Int)), Item.own v22 (x35.2.1.2 : (List Int)), Item.box b7 [(.int .i64 x18.1.1.1), v22, (.int .i64 x18.1.2.1), (.int .i64 x18.1.2.2)], Item.box b3 [(.int .i64 x5), v1, (.int .i64 x7), (.int .i64 x8)], Item.own v1 (x6 : (List Int)), Item.box b2 [(.int .i64 a4.1), u4], Item.box b1 [u3, (.int .i64 a3.2)]] := hC89.front 3 rfl
                                        obtain ⟨v42, rfl, hC91⟩ := st35_own hC90
                                        have hC92 : Ctx [] w0 _ [Item.own v38 (x46.1 : ((Int × (List Int)) × Int × Int)), Item.own v42 (x45.2 : (List Int)), Item.own v41 (x44.1 : (List (Int × (List Int)))), Item.box b9 [(.int .i64 0), (.slice none 0 0), (.int .i64 0), (.int .i64 0)], Item.own v33 (x43 : (List (Int × (List Int) × Int × Int × Int))), Item.own v32 (x42 : (List Int)), Item.own v22 (x35.2.1.2 : (List Int)), Item.box b7 [(.int .i64 x18.1.1.1), v22, (.int .i64 x18.1.2.1), (.int .i64 x18.1.2.2)], Item.box b3 [(.int .i64 x5), v1, (.int .i64 x7), (.int .i64 x8)], Item.own v1 (x6 : (List Int)), Item.box b2 [(.int .i64 a4.1), u4], Item.box b1 [u3, (.int .i64 a3.2)]] := hC91.front 3 rfl
                                        obtain ⟨v43, rfl, hC93⟩ := st97_own hC92
                                        refine WA_one 13 (by kernel_rfl) rfl ?_
                                        refine WL_store_box_agg (cs' := [(.int .i64 x46.1.1.1), v43, (.int .i64 x46.1.2.1), (.int .i64 x46.1.2.2)]) (new := [(.int .i64 x46.1.1.1), v43, (.int .i64 x46.1.2.1), (.int .i64 x46.1.2.2)]) hC93 3 rfl rfl (by intro v hv; simp only [List.mem_cons, List.not_mem_nil, or_false] at hv; rcases hv with rfl | rfl | rfl | rfl; exact rfl; exact (ro_one (hC93.ro 0 rfl)); exact rfl; exact rfl) rfl Try.sizeOf97 rfl rfl (fun w62 hC94 => ?_)
                                        try dsimp only [List.set] at hC94
                                        refine WL_nil ?_
                                        refine WA_take 14 rfl (by kernel_rfl) (by kernel_rfl) (by kernel_rfl) rfl (fl_assign rfl) ?_
                                        refine WL_assign rfl rfl ?_
                                        refine WL_nil ?_
                                        refine WA_done (by kernel_rfl) ?_
                                        have hq24 := Option.some.inj hr33
                                        subst hq24
                                        have hC95 : Ctx [] w0 _ [Item.own v1 (x6 : (List Int)), Item.own v43 (x46.1.1.2 : (List Int)), Item.own v42 (x45.2 : (List Int)), Item.own v41 (x44.1 : (List (Int × (List Int)))), Item.box b9 [(.int .i64 x46.1.1.1), v43, (.int .i64 x46.1.2.1), (.int .i64 x46.1.2.2)], Item.own v33 (x43 : (List (Int × (List Int) × Int × Int × Int))), Item.own v32 (x42 : (List Int)), Item.own v22 (x35.2.1.2 : (List Int)), Item.box b7 [(.int .i64 x18.1.1.1), v22, (.int .i64 x18.1.2.1), (.int .i64 x18.1.2.2)], Item.box b3 [(.int .i64 x5), v1, (.int .i64 x7), (.int .i64 x8)], Item.box b2 [(.int .i64 a4.1), u4], Item.box b1 [u3, (.int .i64 a3.2)]] := hC94.front 9 rfl
                                        have hC96 : Ctx [] w0 _ [Item.box b3 [(.int .i64 x5), v1, (.int .i64 x7), (.int .i64 x8)], Item.own v1 (x6 : (List Int)), Item.own v43 (x46.1.1.2 : (List Int)), Item.own v42 (x45.2 : (List Int)), Item.own v41 (x44.1 : (List (Int × (List Int)))), Item.box b9 [(.int .i64 x46.1.1.1), v43, (.int .i64 x46.1.2.1), (.int .i64 x46.1.2.2)], Item.own v33 (x43 : (List (Int × (List Int) × Int × Int × Int))), Item.own v32 (x42 : (List Int)), Item.own v22 (x35.2.1.2 : (List Int)), Item.box b7 [(.int .i64 x18.1.1.1), v22, (.int .i64 x18.1.2.1), (.int .i64 x18.1.2.2)], Item.box b2 [(.int .i64 a4.1), u4], Item.box b1 [u3, (.int .i64 a3.2)]] := hC95.front 9 rfl
                                        have hC97 : Ctx [] w0 _ [Item.box b7 [(.int .i64 x18.1.1.1), v22, (.int .i64 x18.1.2.1), (.int .i64 x18.1.2.2)], Item.box b3 [(.int .i64 x5), v1, (.int .i64 x7), (.int .i64 x8)], Item.own v1 (x6 : (List Int)), Item.own v43 (x46.1.1.2 : (List Int)), Item.own v42 (x45.2 : (List Int)), Item.own v41 (x44.1 : (List (Int × (List Int)))), Item.box b9 [(.int .i64 x46.1.1.1), v43, (.int .i64 x46.1.2.1), (.int .i64 x46.1.2.2)], Item.own v33 (x43 : (List (Int × (List Int) × Int × Int × Int))), Item.own v32 (x42 : (List Int)), Item.own v22 (x35.2.1.2 : (List Int)), Item.box b2 [(.int .i64 a4.1), u4], Item.box b1 [u3, (.int .i64 a3.2)]] := hC96.front 9 rfl
                                        have hC98 : Ctx [] w0 _ [Item.own v22 (x35.2.1.2 : (List Int)), Item.box b7 [(.int .i64 x18.1.1.1), v22, (.int .i64 x18.1.2.1), (.int .i64 x18.1.2.2)], Item.box b3 [(.int .i64 x5), v1, (.int .i64 x7), (.int .i64 x8)], Item.own v1 (x6 : (List Int)), Item.own v43 (x46.1.1.2 : (List Int)), Item.own v42 (x45.2 : (List Int)), Item.own v41 (x44.1 : (List (Int × (List Int)))), Item.box b9 [(.int .i64 x46.1.1.1), v43, (.int .i64 x46.1.2.1), (.int .i64 x46.1.2.2)], Item.own v33 (x43 : (List (Int × (List Int) × Int × Int × Int))), Item.own v32 (x42 : (List Int)), Item.box b2 [(.int .i64 a4.1), u4], Item.box b1 [u3, (.int .i64 a3.2)]] := hC97.front 9 rfl
                                        have hC99 : Ctx [] w0 _ [Item.own v43 (x46.1.1.2 : (List Int)), Item.own v22 (x35.2.1.2 : (List Int)), Item.box b7 [(.int .i64 x18.1.1.1), v22, (.int .i64 x18.1.2.1), (.int .i64 x18.1.2.2)], Item.box b3 [(.int .i64 x5), v1, (.int .i64 x7), (.int .i64 x8)], Item.own v1 (x6 : (List Int)), Item.own v42 (x45.2 : (List Int)), Item.own v41 (x44.1 : (List (Int × (List Int)))), Item.box b9 [(.int .i64 x46.1.1.1), v43, (.int .i64 x46.1.2.1), (.int .i64 x46.1.2.2)], Item.own v33 (x43 : (List (Int × (List Int) × Int × Int × Int))), Item.own v32 (x42 : (List Int)), Item.box b2 [(.int .i64 a4.1), u4], Item.box b1 [u3, (.int .i64 a3.2)]] := hC98.front 4 rfl
                                        have hC100 : Ctx [] w0 _ [Item.box b9 [(.int .i64 x46.1.1.1), v43, (.int .i64 x46.1.2.1), (.int .i64 x46.1.2.2)], Item.own v43 (x46.1.1.2 : (List Int)), Item.own v22 (x35.2.1.2 : (List Int)), Item.box b7 [(.int .i64 x18.1.1.1), v22, (.int .i64 x18.1.2.1), (.int .i64 x18.1.2.2)], Item.box b3 [(.int .i64 x5), v1, (.int .i64 x7), (.int .i64 x8)], Item.own v1 (x6 : (List Int)), Item.own v42 (x45.2 : (List Int)), Item.own v41 (x44.1 : (List (Int × (List Int)))), Item.own v33 (x43 : (List (Int × (List Int) × Int × Int × Int))), Item.own v32 (x42 : (List Int)), Item.box b2 [(.int .i64 a4.1), u4], Item.box b1 [u3, (.int .i64 a3.2)]] := hC99.front 7 rfl
                                        have hC101 : Ctx [] w0 _ [Item.box b9 [(.int .i64 x46.1.1.1), v43, (.int .i64 x46.1.2.1), (.int .i64 x46.1.2.2)], Item.own v43 (x46.1.1.2 : (List Int)), Item.own v22 (x35.2.1.2 : (List Int)), Item.box b7 [(.int .i64 x18.1.1.1), v22, (.int .i64 x18.1.2.1), (.int .i64 x18.1.2.2)], Item.box b3 [(.int .i64 x5), v1, (.int .i64 x7), (.int .i64 x8)], Item.own v1 (x6 : (List Int))] := hC100.headN 6
                                        refine nrm_sub (l' := [(10, (ptr b3 0)), (11, (.bool x4)), (16, (ptr b7 0)), (19, (.int .i64 x35.1)), (21, (ptr b9 0)), (22, (.bool x46.2))]) ⟨rfl, rfl, rfl, rfl, rfl, rfl, trivial⟩ ?_
                                        exact ⟨x46.2, b9, x46.1.1.1, v43, x46.1.1.2, x46.1.2.1, x46.1.2.2, rfl, rfl, hC101⟩
                                      · intro g' hg'
                                        obtain rfl : g' = 3 := hg'
                                        intro w61 hB52
                                        refine AllE_cons rfl rfl rfl ?_
                                        intro v32 F18 hv28
                                        refine AllE_cons rfl rfl rfl ?_
                                        intro v33 F19 hv29
                                        refine AllE_cons rfl rfl rfl ?_
                                        rintro _ _ ⟨rfl, rfl⟩
                                        refine AllE_cons rfl rfl rfl ?_
                                        intro v34 F20 hv30
                                        refine AllE_cons rfl rfl rfl ?_
                                        rintro _ _ ⟨rfl, rfl⟩
                                        refine AllE_cons rfl rfl rfl ?_
                                        intro v36 F21 hv31
                                        refine AllE_cons rfl rfl rfl ?_
                                        rintro _ _ ⟨v38, v39, F22, F23, rfl, rfl, hv32, hv33⟩
                                        obtain ⟨rfl, rfl⟩ := val_bool hv33
                                        refine AllE_cons rfl rfl rfl ?_
                                        rintro _ _ ⟨rfl, rfl⟩
                                        refine AllE_cons rfl rfl rfl ?_
                                        rintro _ _ ⟨⟨_, hx5, hx6⟩, rfl⟩
                                        obtain rfl := Value.tuple.inj hx5
                                        obtain rfl := Option.some.inj (show (some v38 : Option Value) = some _ from hx6)
                                        refine AllE_cons rfl rfl rfl ?_
                                        rintro _ F24 ⟨b9, rfl, hv34⟩
                                        refine AllE_nil ?_
                                        intro hn28 hb28
                                        have hC87 := hC85.pushL hB52 (Bs := [Item.box b9 [(.int .i64 0), (.slice none 0 0), (.int .i64 0), (.int .i64 0)], Item.own v38 (x46.1 : ((Int × (List Int)) × Int × Int)), Item.own v36 (x45 : (Int × (List Int))), Item.own v34 (x44 : ((List (Int × (List Int))) × Int)), Item.own v33 (x43 : (List (Int × (List Int) × Int × Int × Int))), Item.own v32 (x42 : (List Int))]) (Fs := [F24, F22, F21, F20, F19, F18]) ⟨F24, _, rfl, hv34, F22, _, rfl, hv32, F21, _, rfl, hv31, F20, _, rfl, hv30, F19, _, rfl, hv29, F18, _, rfl, hv28, rfl⟩ (by simpa using hn28) (fun b h => (hb28 b (by simpa using h)).1)
                                        have hC88 : Ctx [] w0 _ [Item.own v34 (x44 : ((List (Int × (List Int))) × Int)), Item.box b9 [(.int .i64 0), (.slice none 0 0), (.int .i64 0), (.int .i64 0)], Item.own v38 (x46.1 : ((Int × (List Int)) × Int × Int)), Item.own v36 (x45 : (Int × (List Int))), Item.own v33 (x43 : (List (Int × (List Int) × Int × Int × Int))), Item.own v32 (x42 : (List Int)), Item.own v22 (x35.2.1.2 : (List Int)), Item.box b7 [(.int .i64 x18.1.1.1), v22, (.int .i64 x18.1.2.1), (.int .i64 x18.1.2.2)], Item.box b3 [(.int .i64 x5), v1, (.int .i64 x7), (.int .i64 x8)], Item.own v1 (x6 : (List Int)), Item.box b2 [(.int .i64 a4.1), u4], Item.box b1 [u3, (.int .i64 a3.2)]] := hC87.front 3 rfl
                                        obtain ⟨v41, rfl, hC89⟩ := st73_own hC88
                                        have hC90 : Ctx [] w0 _ [Item.own v36 (x45 : (Int × (List Int))), Item.own v41 (x44.1 : (List (Int × (List Int)))), Item.box b9 [(.int .i64 0), (.slice none 0 0), (.int .i64 0), (.int .i64 0)], Item.own v38 (x46.1 : ((Int × (List Int)) × Int × Int)), Item.own v33 (x43 : (List (Int × (List Int) × Int × Int × Int))), Item.own v32 (x42 : (List Int)), Item.own v22 (x35.2.1.2 : (List Int)), Item.box b7 [(.int .i64 x18.1.1.1), v22, (.int .i64 x18.1.2.1), (.int .i64 x18.1.2.2)], Item.box b3 [(.int .i64 x5), v1, (.int .i64 x7), (.int .i64 x8)], Item.own v1 (x6 : (List Int)), Item.box b2 [(.int .i64 a4.1), u4], Item.box b1 [u3, (.int .i64 a3.2)]] := hC89.front 3 rfl
                                        obtain ⟨v42, rfl, hC91⟩ := st35_own hC90
                                        have hC92 : Ctx [] w0 _ [Item.own v38 (x46.1 : ((Int × (List Int)) × Int × Int)), Item.own v42 (x45.2 : (List Int)), Item.own v41 (x44.1 : (List (Int × (List Int)))), Item.box b9 [(.int .i64 0), (.slice none 0 0), (.int .i64 0), (.int .i64 0)], Item.own v33 (x43 : (List (Int × (List Int) × Int × Int × Int))), Item.own v32 (x42 : (List Int)), Item.own v22 (x35.2.1.2 : (List Int)), Item.box b7 [(.int .i64 x18.1.1.1), v22, (.int .i64 x18.1.2.1), (.int .i64 x18.1.2.2)], Item.box b3 [(.int .i64 x5), v1, (.int .i64 x7), (.int .i64 x8)], Item.own v1 (x6 : (List Int)), Item.box b2 [(.int .i64 a4.1), u4], Item.box b1 [u3, (.int .i64 a3.2)]] := hC91.front 3 rfl
                                        obtain ⟨v43, rfl, hC93⟩ := st97_own hC92
                                        refine WA_take 11 rfl (by kernel_rfl) (by kernel_rfl) (by kernel_rfl) rfl (fl_extract rfl rfl) ?_
                                        refine WL_extract rfl rfl rfl ?_
                                        refine WL_nil ?_
                                        refine WA_one 13 (by kernel_rfl) rfl ?_
                                        refine WL_store_box_agg (cs' := [(.int .i64 x46.1.1.1), v43, (.int .i64 x46.1.2.1), (.int .i64 x46.1.2.2)]) (new := [(.int .i64 x46.1.1.1), v43, (.int .i64 x46.1.2.1), (.int .i64 x46.1.2.2)]) hC93 3 rfl rfl (by intro v hv; simp only [List.mem_cons, List.not_mem_nil, or_false] at hv; rcases hv with rfl | rfl | rfl | rfl; exact rfl; exact (ro_one (hC93.ro 0 rfl)); exact rfl; exact rfl) rfl Try.sizeOf97 rfl rfl (fun w62 hC94 => ?_)
                                        try dsimp only [List.set] at hC94
                                        refine WL_nil ?_
                                        refine WA_take 14 rfl (by kernel_rfl) (by kernel_rfl) (by kernel_rfl) rfl (fl_assign rfl) ?_
                                        refine WL_assign rfl rfl ?_
                                        refine WL_nil ?_
                                        refine WA_done (by kernel_rfl) ?_
                                        have hq24 := Option.some.inj hr33
                                        subst hq24
                                        have hC95 : Ctx [] w0 _ [Item.own v1 (x6 : (List Int)), Item.own v43 (x46.1.1.2 : (List Int)), Item.own v42 (x45.2 : (List Int)), Item.own v41 (x44.1 : (List (Int × (List Int)))), Item.box b9 [(.int .i64 x46.1.1.1), v43, (.int .i64 x46.1.2.1), (.int .i64 x46.1.2.2)], Item.own v33 (x43 : (List (Int × (List Int) × Int × Int × Int))), Item.own v32 (x42 : (List Int)), Item.own v22 (x35.2.1.2 : (List Int)), Item.box b7 [(.int .i64 x18.1.1.1), v22, (.int .i64 x18.1.2.1), (.int .i64 x18.1.2.2)], Item.box b3 [(.int .i64 x5), v1, (.int .i64 x7), (.int .i64 x8)], Item.box b2 [(.int .i64 a4.1), u4], Item.box b1 [u3, (.int .i64 a3.2)]] := hC94.front 9 rfl
                                        have hC96 : Ctx [] w0 _ [Item.box b3 [(.int .i64 x5), v1, (.int .i64 x7), (.int .i64 x8)], Item.own v1 (x6 : (List Int)), Item.own v43 (x46.1.1.2 : (List Int)), Item.own v42 (x45.2 : (List Int)), Item.own v41 (x44.1 : (List (Int × (List Int)))), Item.box b9 [(.int .i64 x46.1.1.1), v43, (.int .i64 x46.1.2.1), (.int .i64 x46.1.2.2)], Item.own v33 (x43 : (List (Int × (List Int) × Int × Int × Int))), Item.own v32 (x42 : (List Int)), Item.own v22 (x35.2.1.2 : (List Int)), Item.box b7 [(.int .i64 x18.1.1.1), v22, (.int .i64 x18.1.2.1), (.int .i64 x18.1.2.2)], Item.box b2 [(.int .i64 a4.1), u4], Item.box b1 [u3, (.int .i64 a3.2)]] := hC95.front 9 rfl
                                        have hC97 : Ctx [] w0 _ [Item.box b7 [(.int .i64 x18.1.1.1), v22, (.int .i64 x18.1.2.1), (.int .i64 x18.1.2.2)], Item.box b3 [(.int .i64 x5), v1, (.int .i64 x7), (.int .i64 x8)], Item.own v1 (x6 : (List Int)), Item.own v43 (x46.1.1.2 : (List Int)), Item.own v42 (x45.2 : (List Int)), Item.own v41 (x44.1 : (List (Int × (List Int)))), Item.box b9 [(.int .i64 x46.1.1.1), v43, (.int .i64 x46.1.2.1), (.int .i64 x46.1.2.2)], Item.own v33 (x43 : (List (Int × (List Int) × Int × Int × Int))), Item.own v32 (x42 : (List Int)), Item.own v22 (x35.2.1.2 : (List Int)), Item.box b2 [(.int .i64 a4.1), u4], Item.box b1 [u3, (.int .i64 a3.2)]] := hC96.front 9 rfl
                                        have hC98 : Ctx [] w0 _ [Item.own v22 (x35.2.1.2 : (List Int)), Item.box b7 [(.int .i64 x18.1.1.1), v22, (.int .i64 x18.1.2.1), (.int .i64 x18.1.2.2)], Item.box b3 [(.int .i64 x5), v1, (.int .i64 x7), (.int .i64 x8)], Item.own v1 (x6 : (List Int)), Item.own v43 (x46.1.1.2 : (List Int)), Item.own v42 (x45.2 : (List Int)), Item.own v41 (x44.1 : (List (Int × (List Int)))), Item.box b9 [(.int .i64 x46.1.1.1), v43, (.int .i64 x46.1.2.1), (.int .i64 x46.1.2.2)], Item.own v33 (x43 : (List (Int × (List Int) × Int × Int × Int))), Item.own v32 (x42 : (List Int)), Item.box b2 [(.int .i64 a4.1), u4], Item.box b1 [u3, (.int .i64 a3.2)]] := hC97.front 9 rfl
                                        have hC99 : Ctx [] w0 _ [Item.own v43 (x46.1.1.2 : (List Int)), Item.own v22 (x35.2.1.2 : (List Int)), Item.box b7 [(.int .i64 x18.1.1.1), v22, (.int .i64 x18.1.2.1), (.int .i64 x18.1.2.2)], Item.box b3 [(.int .i64 x5), v1, (.int .i64 x7), (.int .i64 x8)], Item.own v1 (x6 : (List Int)), Item.own v42 (x45.2 : (List Int)), Item.own v41 (x44.1 : (List (Int × (List Int)))), Item.box b9 [(.int .i64 x46.1.1.1), v43, (.int .i64 x46.1.2.1), (.int .i64 x46.1.2.2)], Item.own v33 (x43 : (List (Int × (List Int) × Int × Int × Int))), Item.own v32 (x42 : (List Int)), Item.box b2 [(.int .i64 a4.1), u4], Item.box b1 [u3, (.int .i64 a3.2)]] := hC98.front 4 rfl
                                        have hC100 : Ctx [] w0 _ [Item.box b9 [(.int .i64 x46.1.1.1), v43, (.int .i64 x46.1.2.1), (.int .i64 x46.1.2.2)], Item.own v43 (x46.1.1.2 : (List Int)), Item.own v22 (x35.2.1.2 : (List Int)), Item.box b7 [(.int .i64 x18.1.1.1), v22, (.int .i64 x18.1.2.1), (.int .i64 x18.1.2.2)], Item.box b3 [(.int .i64 x5), v1, (.int .i64 x7), (.int .i64 x8)], Item.own v1 (x6 : (List Int)), Item.own v42 (x45.2 : (List Int)), Item.own v41 (x44.1 : (List (Int × (List Int)))), Item.own v33 (x43 : (List (Int × (List Int) × Int × Int × Int))), Item.own v32 (x42 : (List Int)), Item.box b2 [(.int .i64 a4.1), u4], Item.box b1 [u3, (.int .i64 a3.2)]] := hC99.front 7 rfl
                                        have hC101 : Ctx [] w0 _ [Item.box b9 [(.int .i64 x46.1.1.1), v43, (.int .i64 x46.1.2.1), (.int .i64 x46.1.2.2)], Item.own v43 (x46.1.1.2 : (List Int)), Item.own v22 (x35.2.1.2 : (List Int)), Item.box b7 [(.int .i64 x18.1.1.1), v22, (.int .i64 x18.1.2.1), (.int .i64 x18.1.2.2)], Item.box b3 [(.int .i64 x5), v1, (.int .i64 x7), (.int .i64 x8)], Item.own v1 (x6 : (List Int))] := hC100.headN 6
                                        refine nrm_sub (l' := [(10, (ptr b3 0)), (11, (.bool x4)), (16, (ptr b7 0)), (19, (.int .i64 x35.1)), (21, (ptr b9 0)), (22, (.bool x46.2))]) ⟨rfl, rfl, rfl, rfl, rfl, rfl, trivial⟩ ?_
                                        exact ⟨x46.2, b9, x46.1.1.1, v43, x46.1.1.2, x46.1.2.1, x46.1.2.2, rfl, rfl, hC101⟩
                                    · rintro _ w52 ⟨x37, b8, x38, v31, x39, x40, x41, rfl, rfl, hC84⟩
                                      try dsimp only at hF
                                      refine W_seq ?_
                                      obtain ⟨r5, hr39, hF⟩ := bind_some hF
                                      refine W_cut (fun l w => ∃ x47 : Bool, x47 = r5 ∧ l = [(16, (ptr b7 0)), (19, (.int .i64 x35.1)), (154, (.bool x47))] ∧ Below w52.heap.size w52 w ∧ Ctx [] w0 w [Item.own v22 (x35.2.1.2 : (List Int)), Item.box b7 [(.int .i64 x18.1.1.1), v22, (.int .i64 x18.1.2.1), (.int .i64 x18.1.2.2)]]) ?_ ?_
                                      · refine W_reg ?_
                                        refine WL_load_box_agg [(.int .i64 x38), v31, (.int .i64 x40), (.int .i64 x41)] hC84 0 rfl rfl rfl Try.isAgg97 Try.sizeOf97 rfl rfl ?_
                                        refine WL_load_box_agg [(.int .i64 x5), v1, (.int .i64 x7), (.int .i64 x8)] hC84 4 rfl rfl rfl Try.isAgg97 Try.sizeOf97 rfl rfl ?_
                                        obtain ⟨x48, hr40, hr39⟩ := bind_some hr39
                                        refine WL_call Try.call63 rfl rfl (c_Q_eqCursor ((x38, x39), x40, x41) v31 ((hC84.ro 1 rfl).now (Keep.refl _ _)) ((x5, x6), x7, x8) v1 ((hC84.ro 5 rfl).now (Keep.refl _ _)) x48 hr40) ?_
                                        intro _ w64 hv35
                                        obtain ⟨rfl, hB54⟩ := res_bool hv35
                                        have hC103 := hC84.grow hB54
                                        refine WL_not rfl rfl ?_
                                        refine WL_move rfl rfl ?_
                                        refine WL_fork (fun hc16 => ?_) (fun hc16 => ?_)
                                        · replace hr39 := ite_t hr39 hc16
                                          refine WL_guard_skip rfl rfl (by simp) rfl ?_
                                          refine WL_guard_skip rfl rfl (by simp) rfl ?_
                                          refine WL_guard_skip rfl rfl (by simp) rfl ?_
                                          refine WL_pick_t rfl rfl rfl ?_
                                          refine WL_nil ?_
                                          have hq25 := Option.some.inj hr39
                                          subst hq25
                                          have hC104 : Ctx [] w0 _ [Item.box b7 [(.int .i64 x18.1.1.1), v22, (.int .i64 x18.1.2.1), (.int .i64 x18.1.2.2)], Item.box b8 [(.int .i64 x38), v31, (.int .i64 x40), (.int .i64 x41)], Item.own v31 (x39 : (List Int)), Item.own v22 (x35.2.1.2 : (List Int)), Item.box b3 [(.int .i64 x5), v1, (.int .i64 x7), (.int .i64 x8)], Item.own v1 (x6 : (List Int))] := hC103.front 3 rfl
                                          have hC105 : Ctx [] w0 _ [Item.own v22 (x35.2.1.2 : (List Int)), Item.box b7 [(.int .i64 x18.1.1.1), v22, (.int .i64 x18.1.2.1), (.int .i64 x18.1.2.2)], Item.box b8 [(.int .i64 x38), v31, (.int .i64 x40), (.int .i64 x41)], Item.own v31 (x39 : (List Int)), Item.box b3 [(.int .i64 x5), v1, (.int .i64 x7), (.int .i64 x8)], Item.own v1 (x6 : (List Int))] := hC104.front 3 rfl
                                          have hC106 : Ctx [] w0 _ [Item.own v22 (x35.2.1.2 : (List Int)), Item.box b7 [(.int .i64 x18.1.1.1), v22, (.int .i64 x18.1.2.1), (.int .i64 x18.1.2.2)]] := hC105.headN 2
                                          refine nrm_sub (l' := [(16, (ptr b7 0)), (19, (.int .i64 x35.1)), (154, (.bool true))]) ⟨rfl, rfl, rfl, trivial⟩ ?_
                                          exact ⟨true, rfl, rfl, (Keep.of hB54).below, hC106⟩
                                        · replace hr39 := ite_f hr39 hc16
                                          refine WL_guard rfl rfl ?_
                                          refine WL_move rfl rfl ?_
                                          refine WL_guard rfl rfl ?_
                                          refine WL_move rfl rfl ?_
                                          refine WL_guard rfl rfl ?_
                                          refine WL_bool_neq Try.underlying4 rfl rfl rfl ?_
                                          refine WL_pick_f rfl rfl rfl ?_
                                          refine WL_nil ?_
                                          have hq26 := Option.some.inj hr39
                                          subst hq26
                                          have hC107 : Ctx [] w0 _ [Item.box b7 [(.int .i64 x18.1.1.1), v22, (.int .i64 x18.1.2.1), (.int .i64 x18.1.2.2)], Item.box b8 [(.int .i64 x38), v31, (.int .i64 x40), (.int .i64 x41)], Item.own v31 (x39 : (List Int)), Item.own v22 (x35.2.1.2 : (List Int)), Item.box b3 [(.int .i64 x5), v1, (.int .i64 x7), (.int .i64 x8)], Item.own v1 (x6 : (List Int))] := hC103.front 3 rfl
                                          have hC108 : Ctx [] w0 _ [Item.own v22 (x35.2.1.2 : (List Int)), Item.box b7 [(.int .i64 x18.1.1.1), v22, (.int .i64 x18.1.2.1), (.int .i64 x18.1.2.2)], Item.box b8 [(.int .i64 x38), v31, (.int .i64 x40), (.int .i64 x41)], Item.own v31 (x39 : (List Int)), Item.box b3 [(.int .i64 x5), v1, (.int .i64 x7), (.int .i64 x8)], Item.own v1 (x6 : (List Int))] := hC107.front 3 rfl
                                          have hC109 : Ctx [] w0 _ [Item.own v22 (x35.2.1.2 : (List Int)), Item.box b7 [(.int .i64 x18.1.1.1), v22, (.int .i64 x18.1.2.1), (.int .i64 x18.1.2.2)]] := hC108.headN 2
                                          refine nrm_sub (l' := [(16, (ptr b7 0)), (19, (.int .i64 x35.1)), (154, (.bool (!decide (x37 = x4))))]) ⟨rfl, rfl, rfl, trivial⟩ ?_
                                          exact ⟨(!decide (x37 = x4)), rfl, rfl, (Keep.of hB54).below, hC109⟩
                                      · rintro _ w63 ⟨x47, rfl, rfl, hB53, hC102⟩
                                        try dsimp only at hF
                                        refine W_cond rfl (fun hc17 => ?_) (fun hc17 => ?_)
                                        · replace hF := ite_t hF hc17
                                          refine W_seq_reg ?_
                                          refine WL_assign rfl rfl ?_
                                          refine WL_nil ?_
                                          refine W_ret ?_
                                          refine nrm_ret ?_
                                          have hq27 := Option.some.inj hF
                                          subst hq27
                                          refine fn_ret1 rfl rfl ?_
                                          exact ⟨_, rfl, bool_res hC102 _⟩
                                        · replace hF := ite_f hF hc17
                                          refine W_skip ?_
                                          refine nrm_normal ?_
                                          refine W_seq_reg ?_
                                          refine WL_assign rfl rfl ?_
                                          refine WL_nil ?_
                                          refine W_seq_reg ?_
                                          refine WL_load_box_agg [(.int .i64 x18.1.1.1), v22, (.int .i64 x18.1.2.1), (.int .i64 x18.1.2.2)] hC102 1 rfl rfl rfl Try.isAgg97 Try.sizeOf97 rfl rfl ?_
                                          refine WL_move rfl rfl ?_
                                          obtain ⟨x49, hr41, hF⟩ := bind_some hF
                                          refine WL_call Try.call68 rfl rfl (c_Q_heldCursor ((x18.1.1.1, x35.2.1.2), x18.1.2.1, x18.1.2.2) v22 ((hC102.ro 0 rfl).now (Keep.refl _ _)) 1 x49 hr41) ?_
                                          intro _ w65 hv36
                                          obtain ⟨rfl, hB55⟩ := res_int hv36
                                          have hC110 := hC102.grow hB55
                                          refine WL_assign rfl rfl ?_
                                          refine WL_nil ?_
                                          refine W_seq ?_
                                          refine W_seq_reg ?_
                                          refine WL_move rfl rfl ?_
                                          refine WL_lss rfl rfl rfl ?_
                                          refine WL_nil ?_
                                          refine W_cond rfl (fun hc18 => ?_) (fun hc18 => ?_)
                                          · replace hF := ite_t hF hc18
                                            refine W_seq_reg ?_
                                            refine WL_assign rfl rfl ?_
                                            refine WL_nil ?_
                                            refine W_ret ?_
                                            refine nrm_ret ?_
                                            have hq28 := Option.some.inj hF
                                            subst hq28
                                            refine fn_ret1 rfl rfl ?_
                                            exact ⟨_, rfl, bool_res hC110 _⟩
                                          · replace hF := ite_f hF hc18
                                            refine W_skip ?_
                                            refine nrm_normal ?_
                                            refine W_seq ?_
                                            refine W_seq_reg ?_
                                            refine WL_move rfl rfl ?_
                                            refine WL_move rfl rfl ?_
                                            refine WL_neq rfl rfl rfl ?_
                                            refine WL_nil ?_
                                            refine W_cond rfl (fun hc19 => ?_) (fun hc19 => ?_)
                                            · replace hF := ite_t hF hc19
                                              refine W_seq_reg ?_
                                              refine WL_assign rfl rfl ?_
                                              refine WL_nil ?_
                                              refine W_ret ?_
                                              refine nrm_ret ?_
                                              have hq29 := Option.some.inj hF
                                              subst hq29
                                              refine fn_ret1 rfl rfl ?_
                                              exact ⟨_, rfl, bool_res hC110 _⟩
                                            · replace hF := ite_f hF hc19
                                              refine W_skip ?_
                                              refine nrm_normal ?_
                                              refine W_seq_reg ?_
                                              refine WL_assign rfl rfl ?_
                                              refine WL_nil ?_
                                              refine W_ret ?_
                                              have hq30 := Option.some.inj hF
                                              subst hq30
                                              refine fn_ret1 rfl rfl ?_
                                              exact ⟨_, rfl, bool_res hC110 _⟩

theorem c_Q_szTold {w0 : World} (a1 : ((Int × (List Int)) × (List (Int × (List Int))))) (u1 : Value) (g1 : RO [] w0 u1 a1.1.2) (u2 : Value) (g2 : RO [] w0 u2 a1.2) (a2 : Int) (rr : Int) (hF : Q.szTold a1 a2 = some rr) :
    Calls Try.prog 13 [(.agg #[(.int .i64 a1.1.1), u1, u2]), (.int .i64 a2)].toArray w0 fun e w' => ∃ v, e = .returned v ∧ Res w0 rr v w' := by
  refine calls_of_W Try.func13 rfl rfl ?_
  have hC0 := Ctx.start w0
  unfold Q.szTold at hF
  refine W_seq_reg ?_
  refine WL_box (cs := [(.int .i64 a1.1.1), u1, u2]) hC0 rfl rfl rfl (fun b1 w1 hC1 hB1 => ?_)
  refine WL_assign rfl rfl ?_
  refine WL_nil ?_
  refine W_seq_reg ?_
  refine WL_field Try.underlying28 rfl rfl (fun w => ⟨_, Try.sizeOf25 w⟩) rfl rfl ?_
  refine WL_load_box_agg [(.int .i64 a1.1.1), u1] hC1 0 rfl rfl rfl Try.isAgg25 Try.sizeOf25 rfl rfl ?_
  refine WL_move rfl rfl ?_
  obtain ⟨x1, hr1, hF⟩ := bind_some hF
  refine WL_call Try.call59 rfl rfl (c_Q_szAccess (a1.1.1, a1.1.2) u1 (g1.now hC1.keep) a2 x1 hr1) ?_
  intro _ w2 hv1
  obtain ⟨rfl, hB2⟩ := res_int hv1
  have hC2 := hC1.grow hB2
  refine WL_assign rfl rfl ?_
  refine WL_nil ?_
  refine W_seq ?_
  refine W_seq_reg ?_
  refine WL_move rfl rfl ?_
  refine WL_lss rfl rfl rfl ?_
  refine WL_nil ?_
  refine W_cond rfl (fun hc1 => ?_) (fun hc1 => ?_)
  · replace hF := ite_t hF hc1
    refine W_seq_reg ?_
    refine WL_assign rfl rfl ?_
    refine WL_nil ?_
    refine W_ret ?_
    refine nrm_ret ?_
    have hq1 := Option.some.inj hF
    subst hq1
    refine fn_ret1 rfl rfl ?_
    exact ⟨_, rfl, int_res hC2 _⟩
  · replace hF := ite_f hF hc1
    refine W_skip ?_
    refine nrm_normal ?_
    refine W_seq_reg ?_
    refine WL_field Try.underlying28 rfl rfl (fun w => ⟨_, Try.sizeOf26 w⟩) rfl rfl ?_
    refine WL_load_box hC2 0 rfl rfl Try.isAgg26 rfl rfl ?_
    refine WL_move rfl rfl ?_
    obtain ⟨x2, hr2, hF⟩ := bind_some hF
    refine WL_call Try.call37 rfl rfl (c_Q_szFactS a1.2 u2 (g2.now hC2.keep) x1 x2 hr2) ?_
    intro _ w3 hv2
    obtain ⟨rfl, hB3⟩ := res_int hv2
    have hC3 := hC2.grow hB3
    refine WL_assign rfl rfl ?_
    refine WL_nil ?_
    refine W_seq ?_
    refine W_seq_reg ?_
    refine WL_move rfl rfl ?_
    refine WL_lss rfl rfl rfl ?_
    refine WL_nil ?_
    refine W_cond rfl (fun hc2 => ?_) (fun hc2 => ?_)
    · replace hF := ite_t hF hc2
      refine W_seq_reg ?_
      refine WL_assign rfl rfl ?_
      refine WL_nil ?_
      refine W_ret ?_
      refine nrm_ret ?_
      have hq2 := Option.some.inj hF
      subst hq2
      refine fn_ret1 rfl rfl ?_
      exact ⟨_, rfl, int_res hC3 _⟩
    · replace hF := ite_f hF hc2
      refine W_skip ?_
      refine nrm_normal ?_
      refine W_seq_reg ?_
      refine WL_move rfl rfl ?_
      refine WL_assign rfl rfl ?_
      refine WL_nil ?_
      refine W_ret ?_
      have hq3 := Option.some.inj hF
      subst hq3
      refine fn_ret1 rfl rfl ?_
      exact ⟨_, rfl, int_res hC3 _⟩

theorem c_S_IsTold {w0 : World} (a1 : (List Int)) (u1 : Value) (g1 : RO [] w0 u1 a1) (a2 : (List (Int × (List Int) × Int × Int × Int))) (u2 : Value) (g2 : RO [] w0 u2 a2) (a3 : ((Int × (List Int)) × (List (Int × (List Int))))) (u3 : Value) (g3 : RO [] w0 u3 a3.1.2) (u4 : Value) (g4 : RO [] w0 u4 a3.2) (rr : Bool) (hF : S.IsTold a1 a2 a3 = some rr) :
    Calls Try.prog 70 [u1, u2, (.agg #[(.int .i64 a3.1.1), u3, u4])].toArray w0 fun e w' => ∃ v, e = .returned v ∧ Res w0 rr v w' := by
  refine calls_of_W Try.func70 rfl rfl ?_
  have hC0 := Ctx.start w0
  unfold S.IsTold at hF
  refine W_seq_reg ?_
  refine WL_box (cs := [(.int .i64 a3.1.1), u3, u4]) hC0 rfl rfl rfl (fun b1 w1 hC1 hB1 => ?_)
  refine WL_assign rfl rfl ?_
  refine WL_nil ?_
  obtain ⟨r1, hr1, hF⟩ := bind_some hF
  refine W_cut (fun l w => ∃ x1 : Bool, x1 = r1 ∧ l = [(6, (.bool x1))] ∧ Below w1.heap.size w1 w ∧ Ctx [] w0 w []) ?_ ?_
  · refine W_reg ?_
    refine WL_move rfl rfl ?_
    refine WL_move rfl rfl ?_
    refine WL_field Try.underlying38 rfl rfl (fun w => ⟨_, Try.sizeOf35 w⟩) rfl rfl ?_
    refine WL_load_box_agg [(.int .i64 a3.1.1), u3] hC1 0 rfl rfl rfl Try.isAgg35 Try.sizeOf35 rfl rfl ?_
    obtain ⟨x2, hr2, hr1⟩ := bind_some hr1
    refine WL_call Try.call112 rfl rfl (c_S_IsAccess a1 u1 (g1.now hC1.keep) a2 u2 (g2.now hC1.keep) (a3.1.1, a3.1.2) u3 (g3.now hC1.keep) x2 hr2) ?_
    intro _ w3 hv1
    obtain ⟨rfl, hB3⟩ := res_bool hv1
    have hC3 := hC1.grow hB3
    refine WL_move rfl rfl ?_
    refine WL_fork (fun hc1 => ?_) (fun hc1 => ?_)
    · replace hr1 := ite_t hr1 hc1
      refine WL_guard rfl rfl ?_
      refine WL_move rfl rfl ?_
      refine WL_guard rfl rfl ?_
      refine WL_field Try.underlying38 rfl rfl (fun w => ⟨_, Try.sizeOf36 w⟩) rfl rfl ?_
      refine WL_guard rfl rfl ?_
      refine WL_load_box hC3 0 rfl rfl Try.isAgg36 rfl rfl ?_
      obtain ⟨x3, hr3, hr1⟩ := bind_some hr1
      refine WL_guard rfl rfl ?_
      refine WL_call Try.call117 rfl rfl (c_S_AreFacts a1 u1 (g1.now hC3.keep) a3.2 u4 (g4.now hC3.keep) x3 hr3) ?_
      intro _ w4 hv2
      obtain ⟨rfl, hB4⟩ := res_bool hv2
      have hC4 := hC3.grow hB4
      refine WL_pick_t rfl rfl rfl ?_
      refine WL_assign rfl rfl ?_
      refine WL_nil ?_
      have hq1 := Option.some.inj hr1
      subst hq1
      have hC5 : Ctx [] w0 _ [] := hC4.headN 0
      refine nrm_sub (l' := [(6, (.bool x3))]) ⟨rfl, trivial⟩ ?_
      exact ⟨x3, rfl, rfl, ((Keep.of hB3).then hB4).below, hC5⟩
    · replace hr1 := ite_f hr1 hc1
      refine WL_guard_skip rfl rfl (by simp) rfl ?_
      refine WL_guard_skip rfl rfl (by simp) rfl ?_
      refine WL_guard_skip rfl rfl (by simp) rfl ?_
      refine WL_guard_skip rfl rfl (by simp) rfl ?_
      refine WL_pick_f rfl rfl rfl ?_
      refine WL_assign rfl rfl ?_
      refine WL_nil ?_
      have hq2 := Option.some.inj hr1
      subst hq2
      have hC6 : Ctx [] w0 _ [] := hC3.headN 0
      refine nrm_sub (l' := [(6, (.bool false))]) ⟨rfl, trivial⟩ ?_
      exact ⟨false, rfl, rfl, (Keep.of hB3).below, hC6⟩
  · rintro _ w2 ⟨x1, rfl, rfl, hB2, hC2⟩
    try dsimp only at hF
    refine W_ret ?_
    have hq3 := Option.some.inj hF
    subst hq3
    refine fn_ret1 rfl rfl ?_
    exact ⟨_, rfl, bool_res hC2 _⟩

theorem c_S_l5Fits {w0 : World} (a1 : (Int × (List Int) × Int × Int × Int)) (u1 : Value) (g1 : RO [] w0 u1 a1.2.1) (a2 : (List Int)) (u2 : Value) (g2 : RO [] w0 u2 a2) (a3 : (Int × (List Int))) (u3 : Value) (g3 : RO [] w0 u3 a3.2) (rr : Bool) (hF : S.l5Fits a1 a2 a3 = some rr) :
    Calls Try.prog 71 [(.agg #[(.int .i64 a1.1), u1, (.int .i64 a1.2.2.1), (.int .i64 a1.2.2.2.1), (.int .i64 a1.2.2.2.2)]), u2, (.agg #[(.int .i64 a3.1), u3])].toArray w0 fun e w' => ∃ v, e = .returned v ∧ Res w0 rr v w' := by
  refine calls_of_W Try.func71 rfl rfl ?_
  have hC0 := Ctx.start w0
  unfold S.l5Fits at hF
  refine W_seq_reg ?_
  refine WL_box (cs := [(.int .i64 a1.1), u1, (.int .i64 a1.2.2.1), (.int .i64 a1.2.2.2.1), (.int .i64 a1.2.2.2.2)]) hC0 rfl rfl rfl (fun b1 w1 hC1 hB1 => ?_)
  refine WL_box (cs := [(.int .i64 a3.1), u3]) hC1 rfl rfl rfl (fun b2 w2 hC2 hB2 => ?_)
  refine WL_assign rfl rfl ?_
  refine WL_nil ?_
  refine W_seq ?_
  refine W_seq_reg ?_
  refine WL_field Try.underlying77 rfl rfl (fun w => ⟨_, Try.sizeOf3 w⟩) rfl rfl ?_
  refine WL_load_box hC2 0 rfl rfl Try.isAgg3 rfl rfl ?_
  refine WL_field Try.underlying110 rfl rfl (fun w => ⟨_, Try.sizeOf3 w⟩) rfl rfl ?_
  refine WL_load_box hC2 1 rfl rfl Try.isAgg3 rfl rfl ?_
  refine WL_neq rfl rfl rfl ?_
  refine WL_nil ?_
  refine W_cond rfl (fun hc1 => ?_) (fun hc1 => ?_)
  · replace hF := ite_t hF hc1
    refine W_seq_reg ?_
    refine WL_assign rfl rfl ?_
    refine WL_nil ?_
    refine W_ret ?_
    refine nrm_ret ?_
    have hq1 := Option.some.inj hF
    subst hq1
    refine fn_ret1 rfl rfl ?_
    exact ⟨_, rfl, bool_res hC2 _⟩
  · replace hF := ite_f hF hc1
    refine W_skip ?_
    refine nrm_normal ?_
    refine W_seq ?_
    refine W_seq_reg ?_
    refine WL_assign rfl rfl ?_
    refine WL_nil ?_
    obtain ⟨r1, hr1, hF⟩ := bind_some hF
    refine W_norm (fun l w => .inl () = r1 ∧ l = [] ∧ Below w2.heap.size w2 w ∧ Ctx [] w0 w []) ?_ ?_
    · refine W_block ?_
      refine W.sub (l' := [(1, u2), (3, (ptr b1 0)), (5, (ptr b2 0)), (7, (.int .i64 0))]) ?_ ⟨rfl, rfl, rfl, rfl, trivial⟩
      refine W_loop (fun k l w => ∃ x1 : Int, l = [(1, u2), (3, (ptr b1 0)), (5, (ptr b2 0)), (7, (.int .i64 x1))] ∧ Below w2.heap.size w2 w ∧ Ctx [] w0 w [Item.box b2 [(.int .i64 a3.1), u3], Item.box b1 [(.int .i64 a1.1), u1, (.int .i64 a1.2.2.1), (.int .i64 a1.2.2.2.1), (.int .i64 a1.2.2.2.2)]] ∧ S.l5Fits_l1 a1 a2 a3 k x1 = some r1) FUEL ⟨0, rfl, (Below.refl _ _), hC2, hr1⟩ ?_
      clear hr1
      rintro k1 _ w3 ⟨x1, rfl, hB3, hC3, hL1⟩
      cases k1 with
      | zero => rw [S.l5Fits_l1] at hL1; cases hL1
      | succ k1 =>
        rw [S.l5Fits_l1] at hL1
        refine W_seq ?_
        refine W_seq_reg ?_
        refine WL_move rfl rfl ?_
        refine WL_field Try.underlying110 rfl rfl (fun w => ⟨_, Try.sizeOf22 w⟩) rfl rfl ?_
        refine WL_load_box hC3 1 rfl rfl Try.isAgg22 rfl rfl ?_
        refine WL_len Try.underlying22 g1 rfl rfl ?_
        refine WL_lss rfl rfl rfl ?_
        refine WL_nil ?_
        refine W_cond rfl (fun hc2 => ?_) (fun hc2 => ?_)
        · replace hL1 := ite_t hL1 hc2
          refine W_skip ?_
          refine nrm_normal ?_
          refine W_seq ?_
          refine W_block ?_
          refine W_seq ?_
          refine W_drawn 14 rfl hmix (fun w4 hB4 => ?_)
          have hC4 := hC3.grow hB4
          refine WA_take 0 rfl (by kernel_rfl) (by kernel_rfl) (by kernel_rfl) rfl (fl_field Try.underlying77 rfl rfl (fun w => ⟨_, Try.sizeOf22 w⟩) rfl) ?_
          refine WL_field Try.underlying77 rfl rfl (fun w => ⟨_, Try.sizeOf22 w⟩) rfl rfl ?_
          refine WL_nil ?_
          refine WA_take 2 rfl (by kernel_rfl) (by kernel_rfl) (by kernel_rfl) rfl (fl_field Try.underlying110 rfl rfl (fun w => ⟨_, Try.sizeOf22 w⟩) rfl) ?_
          refine WL_field Try.underlying110 rfl rfl (fun w => ⟨_, Try.sizeOf22 w⟩) rfl rfl ?_
          refine WL_nil ?_
          refine WA_take 4 rfl (by kernel_rfl) (by kernel_rfl) (by kernel_rfl) rfl (fl_move rfl) ?_
          refine WL_move rfl rfl ?_
          refine WL_nil ?_
          refine WA_take 9 rfl (by kernel_rfl) (by kernel_rfl) (by kernel_rfl) rfl (fl_move rfl) ?_
          refine WL_move rfl rfl ?_
          refine WL_nil ?_
          refine WA_take 10 rfl (by kernel_rfl) (by kernel_rfl) (by kernel_rfl) rfl (fl_move rfl) ?_
          refine WL_move rfl rfl ?_
          refine WL_nil ?_
          obtain ⟨x2, hx1, hL1⟩ := bind_some hL1
          refine WA_take 11 rfl (by kernel_rfl) (by kernel_rfl) (by kernel_rfl) rfl (fl_index Try.underlying22 ty3 g2 hx1 rfl rfl) ?_
          refine WL_index Try.underlying22 ty3 g2 hx1 rfl rfl rfl (fun b3 o1 h1 => ?_)
          refine WL_nil ?_
          obtain ⟨x3, hx2, hL1⟩ := bind_some hL1
          obtain ⟨x4, hx3, hL1⟩ := bind_some hL1
          refine WA.sub (l' := [(1, u2), (3, (ptr b1 0)), (5, (ptr b2 0)), (7, (.int .i64 x1)), (13, (.int .i64 x1)), (14, (ptr b1 1)), (15, u1), (16, (.int .i64 (List.length a1.2.1 : Int))), (17, (.bool (decide (x1 < (List.length a1.2.1 : Int))))), (20, (ptr b2 1)), (22, (ptr b1 1)), (24, (.int .i64 x1)), (29, u2), (30, (.int .i64 x1)), (31, (ptr b3 o1))]) ?_ ⟨rfl, rfl, rfl, rfl, rfl, rfl, rfl, rfl, rfl, rfl, rfl, rfl, rfl, rfl, rfl, trivial⟩
          refine WA_postsE [⟨1, [], fun vs => PW.val u3, []⟩, ⟨3, [], fun vs => PW.val u1, []⟩, ⟨5, [], fun vs => PW.at [] w0 x3, []⟩, ⟨6, [], fun vs => PW.val (.int .i64 x3), []⟩, ⟨7, [], fun vs => PW.at [] w0 x4, []⟩, ⟨8, [], fun vs => PW.val (.int .i64 x4), []⟩, ⟨12, [], fun vs => PW.val (.int .i64 x2), []⟩] [[], [], [3], [5], [1, 6], [7], []] 1 rfl (by kernel_rfl) (by kernel_rfl) rfl ?_ ?_
          · refine StepsE_cons rfl ?_ ?_
            · intro w5 hB5
              refine DepsE_nil ?_
              refine ⟨_, rfl, ?_⟩
              refine WL_load_box (hC4.grow hB5) 0 rfl rfl Try.isAgg22 rfl rfl ?_
              refine WL_nil ?_
              exact FinE_val (Below.refl _ _) rfl rfl ⟨rfl, rfl⟩
            refine StepsE_cons rfl ?_ ?_
            · intro w5 hB5
              refine DepsE_nil ?_
              refine ⟨_, rfl, ?_⟩
              refine WL_load_box (hC4.grow hB5) 1 rfl rfl Try.isAgg22 rfl rfl ?_
              refine WL_nil ?_
              exact FinE_val (Below.refl _ _) rfl rfl ⟨rfl, rfl⟩
            refine StepsE_cons rfl ?_ ?_
            · intro w5 hB5
              refine DepsE_cons rfl rfl rfl ?_
              rintro _ _ ⟨rfl, rfl⟩ _
              refine DepsE_nil ?_
              refine ⟨_, rfl, ?_⟩
              refine WL_index Try.underlying22 ty3 g1 hx2 rfl rfl rfl (fun b4 o2 h2 => ?_)
              refine WL_nil ?_
              exact FinE_val (Below.refl _ _) rfl rfl ⟨rfl, _, _, rfl, h2⟩
            refine StepsE_cons rfl ?_ ?_
            · intro w5 hB5
              refine DepsE_cons rfl rfl rfl ?_
              rintro _ _ ⟨rfl, b4, o2, rfl, h2⟩ _
              refine DepsE_nil ?_
              refine ⟨_, rfl, ?_⟩
              refine WL_load ty3 h2 (hC4.keep.then hB5) rfl rfl (fun v1 h3 => ?_)
              obtain rfl := ro_int h3
              refine WL_nil ?_
              exact FinE_val (Below.refl _ _) rfl rfl ⟨rfl, rfl⟩
            refine StepsE_cons rfl ?_ ?_
            · intro w5 hB5
              refine DepsE_cons rfl rfl rfl ?_
              rintro _ _ ⟨rfl, rfl⟩ _
              refine DepsE_cons rfl rfl rfl ?_
              rintro _ _ ⟨rfl, rfl⟩ _
              refine DepsE_nil ?_
              refine ⟨_, rfl, ?_⟩
              refine WL_index Try.underlying22 ty3 g3 hx3 rfl rfl rfl (fun b5 o3 h4 => ?_)
              refine WL_nil ?_
              exact FinE_val (Below.refl _ _) rfl rfl ⟨rfl, _, _, rfl, h4⟩
            refine StepsE_cons rfl ?_ ?_
            · intro w5 hB5
              refine DepsE_cons rfl rfl rfl ?_
              rintro _ _ ⟨rfl, b5, o3, rfl, h4⟩ _
              refine DepsE_nil ?_
              refine ⟨_, rfl, ?_⟩
              refine WL_load ty3 h4 (hC4.keep.then hB5) rfl rfl (fun v2 h5 => ?_)
              obtain rfl := ro_int h5
              refine WL_nil ?_
              exact FinE_val (Below.refl _ _) rfl rfl ⟨rfl, rfl⟩
            refine StepsE_cons rfl ?_ ?_
            · intro w5 hB5
              refine DepsE_nil ?_
              refine ⟨_, rfl, ?_⟩
              refine WL_load ty3 h1 (hC4.keep.then hB5) rfl rfl (fun v3 h6 => ?_)
              obtain rfl := ro_int h6
              refine WL_nil ?_
              exact FinE_val (Below.refl _ _) rfl rfl ⟨rfl, rfl⟩
            exact StepsE_nil
          · intro w6 hB6
            refine AllE_cons rfl rfl rfl ?_
            rintro _ _ ⟨rfl, rfl⟩
            refine AllE_cons rfl rfl rfl ?_
            rintro _ _ ⟨rfl, rfl⟩
            refine AllE_cons rfl rfl rfl ?_
            rintro _ _ ⟨rfl, b4, o2, rfl, h2⟩
            refine AllE_cons rfl rfl rfl ?_
            rintro _ _ ⟨rfl, rfl⟩
            refine AllE_cons rfl rfl rfl ?_
            rintro _ _ ⟨rfl, b5, o3, rfl, h4⟩
            refine AllE_cons rfl rfl rfl ?_
            rintro _ _ ⟨rfl, rfl⟩
            refine AllE_cons rfl rfl rfl ?_
            rintro _ _ ⟨rfl, rfl⟩
            refine AllE_nil ?_
            intro hn1 hb1
            have hC5 := hC4.grow hB6
            refine WA_take 13 rfl (by kernel_rfl) (by kernel_rfl) (by kernel_rfl) rfl (fl_neq rfl rfl) ?_
            refine WL_neq rfl rfl rfl ?_
            refine WL_nil ?_
            refine WA_done (by kernel_rfl) ?_
            refine nrm_normal ?_
            refine W_cond rfl (fun hc3 => ?_) (fun hc3 => ?_)
            · replace hL1 := ite_t hL1 hc3
              refine W_seq_reg ?_
              refine WL_assign rfl rfl ?_
              refine WL_nil ?_
              refine W_ret ?_
              refine blk_ret ?_
              refine nrm_ret ?_
              refine nrm_ret ?_
              refine blk_ret ?_
              refine nrm_ret ?_
              refine nrm_ret ?_
              have hq2 := Option.some.inj hL1
              subst hq2
              dsimp only at hF
              have hq3 := Option.some.inj hF
              subst hq3
              refine fn_ret1 rfl rfl ?_
              exact ⟨_, rfl, bool_res hC5 _⟩
            · replace hL1 := ite_f hL1 hc3
              refine W_skip ?_
              refine blk_normal ?_
              refine nrm_normal ?_
              refine W_reg ?_
              refine WL_move rfl rfl ?_
              refine WL_add rfl rfl rfl ?_
              refine WL_assign rfl rfl ?_
              refine WL_nil ?_
              refine nrm_sub (l' := [(1, u2), (3, (ptr b1 0)), (5, (ptr b2 0)), (7, (.int .i64 (w64 (x1 + 1))))]) ⟨rfl, rfl, rfl, rfl, trivial⟩ ?_
              exact ⟨k1, Nat.lt_succ_self _, w64 (x1 + 1), rfl, (((Keep.of hB3).then hB4).then hB6).below, hC5, hL1⟩
        · replace hL1 := ite_f hL1 hc2
          refine W_exit ?_
          refine nrm_exit ?_
          refine nrm_exit ?_
          refine blk_exit ?_
          have hq4 := Option.some.inj hL1
          subst hq4
          have hC6 : Ctx [] w0 _ [] := hC3.headN 0
          refine nrm_sub (l' := []) trivial ?_
          exact ⟨rfl, rfl, (Keep.of hB3).below, hC6⟩
    · rintro l2 _ w7 hs2 ⟨rfl, rfl, hB7, hC7⟩
      try dsimp only at hF
      refine nrm_sub' hs2 ?_
      clear hs2
      refine W_seq_reg ?_
      refine WL_assign rfl rfl ?_
      refine WL_nil ?_
      refine W_ret ?_
      have hq5 := Option.some.inj hF
      subst hq5
      refine fn_ret1 rfl rfl ?_
      exact ⟨_, rfl, bool_res hC7 _⟩

theorem c_S_FitsSelf {w0 : World} (a1 : (List Int)) (u1 : Value) (g1 : RO [] w0 u1 a1) (a2 : (List (Int × (List Int) × Int × Int × Int))) (u2 : Value) (g2 : RO [] w0 u2 a2) (a3 : ((Int × (List Int)) × (List (Int × (List Int))))) (u3 : Value) (g3 : RO [] w0 u3 a3.1.2) (u4 : Value) (g4 : RO [] w0 u4 a3.2) (rr : Bool) (hF : S.FitsSelf a1 a2 a3 = some rr) :
    Calls Try.prog 14 [u1, u2, (.agg #[(.int .i64 a3.1.1), u3, u4])].toArray w0 fun e w' => ∃ v, e = .returned v ∧ Res w0 rr v w' := by
  refine calls_of_W Try.func14 rfl rfl ?_
  have hC0 := Ctx.start w0
  unfold S.FitsSelf at hF
  refine W_seq_reg ?_
  refine WL_box (cs := [(.int .i64 a3.1.1), u3, u4]) hC0 rfl rfl rfl (fun b1 w1 hC1 hB1 => ?_)
  refine WL_assign rfl rfl ?_
  refine WL_nil ?_
  refine W_seq ?_
  refine W_seq_reg ?_
  refine WL_move rfl rfl ?_
  refine WL_move rfl rfl ?_
  refine WL_load_box_agg [(.int .i64 a3.1.1), u3, u4] hC1 0 rfl rfl rfl Try.isAgg38 Try.sizeOf38 rfl rfl ?_
  obtain ⟨x1, hr1, hF⟩ := bind_some hF
  refine WL_call Try.call70 rfl rfl (c_S_IsTold a1 u1 (g1.now hC1.keep) a2 u2 (g2.now hC1.keep) ((a3.1.1, a3.1.2), a3.2) u3 (g3.now hC1.keep) u4 (g4.now hC1.keep) x1 hr1) ?_
  intro _ w2 hv1
  obtain ⟨rfl, hB2⟩ := res_bool hv1
  have hC2 := hC1.grow hB2
  refine WL_not rfl rfl ?_
  refine WL_nil ?_
  refine W_cond rfl (fun hc1 => ?_) (fun hc1 => ?_)
  · replace hF := ite_t hF hc1
    refine W_seq_reg ?_
    refine WL_assign rfl rfl ?_
    refine WL_nil ?_
    refine W_ret ?_
    refine nrm_ret ?_
    have hq1 := Option.some.inj hF
    subst hq1
    refine fn_ret1 rfl rfl ?_
    exact ⟨_, rfl, bool_res hC2 _⟩
  · replace hF := ite_f hF hc1
    refine W_skip ?_
    refine nrm_normal ?_
    refine W_seq_reg ?_
    refine WL_move rfl rfl ?_
    refine WL_field Try.underlying38 rfl rfl (fun w => ⟨_, Try.sizeOf35 w⟩) rfl rfl ?_
    refine WL_field Try.underlying35 rfl rfl (fun w => ⟨_, Try.sizeOf3 w⟩) rfl rfl ?_
    refine WL_load_box hC2 0 rfl rfl Try.isAgg3 rfl rfl ?_
    obtain ⟨x2, hx1, hF⟩ := bind_some hF
    refine WL_index Try.underlying33 ty110 g2 hx1 rfl rfl rfl (fun b2 o1 h1 => ?_)
    refine WL_load ty110 h1 hC2.keep rfl rfl (fun v1 h2 => ?_)
    obtain ⟨v2, rfl, h3⟩ := ro_st110 h2
    refine WL_alloc hC2 zero110 rfl rfl (fun b3 w3 hC3 hB3 => ?_)
    refine WL_store_box_agg (cs' := [(.int .i64 x2.1), v2, (.int .i64 x2.2.2.1), (.int .i64 x2.2.2.2.1), (.int .i64 x2.2.2.2.2)]) (new := [(.int .i64 x2.1), v2, (.int .i64 x2.2.2.1), (.int .i64 x2.2.2.2.1), (.int .i64 x2.2.2.2.2)]) hC3 0 rfl rfl (by intro v hv; simp only [List.mem_cons, List.not_mem_nil, or_false] at hv; rcases hv with rfl | rfl | rfl | rfl | rfl; exact rfl; exact (ro_one h3); exact rfl; exact rfl; exact rfl) rfl Try.sizeOf110 rfl rfl (fun w4 hC4 => ?_)
    try dsimp only [List.set] at hC4
    refine WL_nil ?_
    refine W_seq ?_
    refine W_seq_reg ?_
    refine WL_assign rfl rfl ?_
    refine WL_nil ?_
    obtain ⟨r1, hr2, hF⟩ := bind_some hF
    refine W_norm (fun l w => .inl () = r1 ∧ l = [(5, (ptr b1 0)), (7, (ptr b3 0))] ∧ Below w4.heap.size w4 w ∧ Ctx [] w0 w [Item.box b3 [(.int .i64 x2.1), v2, (.int .i64 x2.2.2.1), (.int .i64 x2.2.2.2.1), (.int .i64 x2.2.2.2.2)], Item.box b1 [(.int .i64 a3.1.1), u3, u4]]) ?_ ?_
    · refine W_block ?_
      refine W.sub (l' := [(5, (ptr b1 0)), (7, (ptr b3 0)), (8, (.int .i64 0))]) ?_ ⟨rfl, rfl, rfl, trivial⟩
      refine W_loop (fun k l w => ∃ x3 : Int, l = [(5, (ptr b1 0)), (7, (ptr b3 0)), (8, (.int .i64 x3))] ∧ Below w4.heap.size w4 w ∧ Ctx [] w0 w [Item.box b3 [(.int .i64 x2.1), v2, (.int .i64 x2.2.2.1), (.int .i64 x2.2.2.2.1), (.int .i64 x2.2.2.2.2)], Item.box b1 [(.int .i64 a3.1.1), u3, u4]] ∧ S.FitsSelf_l1 a3 x2 k x3 = some r1) FUEL ⟨0, rfl, (Below.refl _ _), hC4, hr2⟩ ?_
      clear hr2
      rintro k1 _ w5 ⟨x3, rfl, hB4, hC5, hL1⟩
      cases k1 with
      | zero => rw [S.FitsSelf_l1] at hL1; cases hL1
      | succ k1 =>
        rw [S.FitsSelf_l1] at hL1
        refine W_seq ?_
        refine W_seq_reg ?_
        refine WL_move rfl rfl ?_
        refine WL_field Try.underlying38 rfl rfl (fun w => ⟨_, Try.sizeOf36 w⟩) rfl rfl ?_
        refine WL_load_box hC5 1 rfl rfl Try.isAgg36 rfl rfl ?_
        refine WL_len Try.underlying36 g4 rfl rfl ?_
        refine WL_lss rfl rfl rfl ?_
        refine WL_nil ?_
        refine W_cond rfl (fun hc2 => ?_) (fun hc2 => ?_)
        · replace hL1 := ite_t hL1 hc2
          refine W_skip ?_
          refine nrm_normal ?_
          refine W_seq ?_
          refine W_block ?_
          refine W_seq ?_
          refine W_drawn 11 rfl hmix (fun w6 hB5 => ?_)
          have hC6 := hC5.grow hB5
          refine WA_take 1 rfl (by kernel_rfl) (by kernel_rfl) (by kernel_rfl) rfl (fl_field Try.underlying38 rfl rfl (fun w => ⟨_, Try.sizeOf35 w⟩) rfl) ?_
          refine WL_field Try.underlying38 rfl rfl (fun w => ⟨_, Try.sizeOf35 w⟩) rfl rfl ?_
          refine WL_nil ?_
          refine WA_take 2 rfl (by kernel_rfl) (by kernel_rfl) (by kernel_rfl) rfl (fl_field Try.underlying35 rfl rfl (fun w => ⟨_, Try.sizeOf22 w⟩) rfl) ?_
          refine WL_field Try.underlying35 rfl rfl (fun w => ⟨_, Try.sizeOf22 w⟩) rfl rfl ?_
          refine WL_nil ?_
          refine WA_take 4 rfl (by kernel_rfl) (by kernel_rfl) (by kernel_rfl) rfl (fl_field Try.underlying38 rfl rfl (fun w => ⟨_, Try.sizeOf36 w⟩) rfl) ?_
          refine WL_field Try.underlying38 rfl rfl (fun w => ⟨_, Try.sizeOf36 w⟩) rfl rfl ?_
          refine WL_nil ?_
          refine WA_take 6 rfl (by kernel_rfl) (by kernel_rfl) (by kernel_rfl) rfl (fl_move rfl) ?_
          refine WL_move rfl rfl ?_
          refine WL_nil ?_
          obtain ⟨x4, hx2, hL1⟩ := bind_some hL1
          refine WA.sub (l' := [(5, (ptr b1 0)), (7, (ptr b3 0)), (8, (.int .i64 x3)), (20, (.int .i64 x3)), (21, (ptr b1 2)), (22, u4), (23, (.int .i64 (List.length a3.2 : Int))), (24, (.bool (decide (x3 < (List.length a3.2 : Int))))), (28, (ptr b1 0)), (29, (ptr b1 1)), (31, (ptr b1 2)), (33, (.int .i64 x3))]) ?_ ⟨rfl, rfl, rfl, rfl, rfl, rfl, rfl, rfl, rfl, rfl, rfl, rfl, trivial⟩
          refine WA_postsE [⟨0, [], fun vs => PW.val (.agg #[(.int .i64 x2.1), v2, (.int .i64 x2.2.2.1), (.int .i64 x2.2.2.2.1), (.int .i64 x2.2.2.2.2)]), []⟩, ⟨3, [], fun vs => PW.val u3, []⟩, ⟨5, [], fun vs => PW.val u4, []⟩, ⟨7, [], fun vs => PW.at [] w0 x4, []⟩, ⟨8, [], fun vs => PW.ro [] w0 x4, []⟩] [[], [], [], [5], [7]] 2 rfl (by kernel_rfl) (by kernel_rfl) rfl ?_ ?_
          · refine StepsE_cons rfl ?_ ?_
            · intro w7 hB6
              refine DepsE_nil ?_
              refine ⟨_, rfl, ?_⟩
              refine WL_load_box_agg [(.int .i64 x2.1), v2, (.int .i64 x2.2.2.1), (.int .i64 x2.2.2.2.1), (.int .i64 x2.2.2.2.2)] (hC6.grow hB6) 0 rfl rfl rfl Try.isAgg110 Try.sizeOf110 rfl rfl ?_
              refine WL_nil ?_
              exact FinE_val (Below.refl _ _) rfl rfl ⟨rfl, rfl⟩
            refine StepsE_cons rfl ?_ ?_
            · intro w7 hB6
              refine DepsE_nil ?_
              refine ⟨_, rfl, ?_⟩
              refine WL_load_box (hC6.grow hB6) 1 rfl rfl Try.isAgg22 rfl rfl ?_
              refine WL_nil ?_
              exact FinE_val (Below.refl _ _) rfl rfl ⟨rfl, rfl⟩
            refine StepsE_cons rfl ?_ ?_
            · intro w7 hB6
              refine DepsE_nil ?_
              refine ⟨_, rfl, ?_⟩
              refine WL_load_box (hC6.grow hB6) 1 rfl rfl Try.isAgg36 rfl rfl ?_
              refine WL_nil ?_
              exact FinE_val (Below.refl _ _) rfl rfl ⟨rfl, rfl⟩
            refine StepsE_cons rfl ?_ ?_
            · intro w7 hB6
              refine DepsE_cons rfl rfl rfl ?_
              rintro _ _ ⟨rfl, rfl⟩ _
              refine DepsE_nil ?_
              refine ⟨_, rfl, ?_⟩
              refine WL_index Try.underlying36 ty77 g4 hx2 rfl rfl rfl (fun b4 o2 h4 => ?_)
              refine WL_nil ?_
              exact FinE_val (Below.refl _ _) rfl rfl ⟨rfl, _, _, rfl, h4⟩
            refine StepsE_cons rfl ?_ ?_
            · intro w7 hB6
              refine DepsE_cons rfl rfl rfl ?_
              rintro _ _ ⟨rfl, b4, o2, rfl, h4⟩ _
              refine DepsE_nil ?_
              refine ⟨_, rfl, ?_⟩
              refine WL_load ty77 h4 (hC6.keep.then hB6) rfl rfl (fun v5 h7 => ?_)
              refine WL_nil ?_
              exact FinE_val (Below.refl _ _) rfl rfl ⟨rfl, h7⟩
            exact StepsE_nil
          · intro w8 hB7
            refine AllE_cons rfl rfl rfl ?_
            rintro _ _ ⟨rfl, rfl⟩
            refine AllE_cons rfl rfl rfl ?_
            rintro _ _ ⟨rfl, rfl⟩
            refine AllE_cons rfl rfl rfl ?_
            rintro _ _ ⟨rfl, rfl⟩
            refine AllE_cons rfl rfl rfl ?_
            rintro _ _ ⟨rfl, b4, o2, rfl, h4⟩
            refine AllE_cons rfl rfl rfl ?_
            rintro v5 _ ⟨rfl, h7⟩
            obtain ⟨v4, rfl, h6⟩ := ro_st77 h7
            refine AllE_nil ?_
            intro hn1 hb1
            have hC7 := hC6.grow hB7
            obtain ⟨x5, hr3, hL1⟩ := bind_some hL1
            refine WA_one 9 (by kernel_rfl) rfl ?_
            refine WL_call Try.call71 rfl rfl (c_S_l5Fits (x2.1, x2.2.1, x2.2.2.1, x2.2.2.2.1, x2.2.2.2.2) v2 (h3.now hC7.keep) a3.1.2 u3 (g3.now hC7.keep) x4 v4 (h6.now hC7.keep) x5 hr3) ?_
            intro _ w9 hv2
            obtain ⟨rfl, hB8⟩ := res_bool hv2
            have hC8 := hC7.grow hB8
            refine WL_nil ?_
            refine WA_take 10 rfl (by kernel_rfl) (by kernel_rfl) (by kernel_rfl) rfl (fl_not rfl) ?_
            refine WL_not rfl rfl ?_
            refine WL_nil ?_
            refine WA_done (by kernel_rfl) ?_
            refine nrm_normal ?_
            refine W_cond rfl (fun hc3 => ?_) (fun hc3 => ?_)
            · replace hL1 := ite_t hL1 hc3
              refine W_seq_reg ?_
              refine WL_assign rfl rfl ?_
              refine WL_nil ?_
              refine W_ret ?_
              refine blk_ret ?_
              refine nrm_ret ?_
              refine nrm_ret ?_
              refine blk_ret ?_
              refine nrm_ret ?_
              refine nrm_ret ?_
              have hq2 := Option.some.inj hL1
              subst hq2
              dsimp only at hF
              have hq3 := Option.some.inj hF
              subst hq3
              refine fn_ret1 rfl rfl ?_
              exact ⟨_, rfl, bool_res hC8 _⟩
            · replace hL1 := ite_f hL1 hc3
              refine W_skip ?_
              refine blk_normal ?_
              refine nrm_normal ?_
              refine W_reg ?_
              refine WL_move rfl rfl ?_
              refine WL_add rfl rfl rfl ?_
              refine WL_assign rfl rfl ?_
              refine WL_nil ?_
              refine nrm_sub (l' := [(5, (ptr b1 0)), (7, (ptr b3 0)), (8, (.int .i64 (w64 (x3 + 1))))]) ⟨rfl, rfl, rfl, trivial⟩ ?_
              exact ⟨k1, Nat.lt_succ_self _, w64 (x3 + 1), rfl, ((((Keep.of hB4).then hB5).then hB7).then hB8).below, hC8, hL1⟩
        · replace hL1 := ite_f hL1 hc2
          refine W_exit ?_
          refine nrm_exit ?_
          refine nrm_exit ?_
          refine blk_exit ?_
          have hq4 := Option.some.inj hL1
          subst hq4
          refine nrm_sub (l' := [(5, (ptr b1 0)), (7, (ptr b3 0))]) ⟨rfl, rfl, trivial⟩ ?_
          exact ⟨rfl, rfl, (Keep.of hB4).below, hC5⟩
    · rintro l2 _ w10 hs2 ⟨rfl, rfl, hB9, hC9⟩
      try dsimp only at hF
      refine nrm_sub' hs2 ?_
      clear hs2
      obtain ⟨r2, hr4, hF⟩ := bind_some hF
      refine W_cut (fun l w => ∃ x6 : Bool, x6 = r2 ∧ l = [(6, (.bool x6))] ∧ Below w10.heap.size w10 w ∧ Ctx [] w0 w []) ?_ ?_
      · refine W_reg ?_
        refine WL_field Try.underlying110 rfl rfl (fun w => ⟨_, Try.sizeOf3 w⟩) rfl rfl ?_
        refine WL_load_box hC9 0 rfl rfl Try.isAgg3 rfl rfl ?_
        refine WL_eql rfl rfl rfl ?_
        refine WL_move rfl rfl ?_
        refine WL_fork (fun hc4 => ?_) (fun hc4 => ?_)
        · replace hr4 := ite_t hr4 hc4
          refine WL_guard_skip rfl rfl (by simp) rfl ?_
          refine WL_guard_skip rfl rfl (by simp) rfl ?_
          refine WL_guard_skip rfl rfl (by simp) rfl ?_
          refine WL_guard_skip rfl rfl (by simp) rfl ?_
          refine WL_guard_skip rfl rfl (by simp) rfl ?_
          refine WL_guard_skip rfl rfl (by simp) rfl ?_
          refine WL_pick_t rfl rfl rfl ?_
          refine WL_assign rfl rfl ?_
          refine WL_nil ?_
          have hq5 := Option.some.inj hr4
          subst hq5
          have hC11 : Ctx [] w0 _ [] := hC9.headN 0
          refine nrm_sub (l' := [(6, (.bool true))]) ⟨rfl, trivial⟩ ?_
          exact ⟨true, rfl, rfl, (Below.refl _ _), hC11⟩
        · replace hr4 := ite_f hr4 hc4
          refine WL_guard rfl rfl ?_
          refine WL_field Try.underlying38 rfl rfl (fun w => ⟨_, Try.sizeOf36 w⟩) rfl rfl ?_
          refine WL_guard rfl rfl ?_
          refine WL_load_box hC9 1 rfl rfl Try.isAgg36 rfl rfl ?_
          refine WL_guard rfl rfl ?_
          refine WL_len Try.underlying36 g4 rfl rfl ?_
          refine WL_guard rfl rfl ?_
          refine WL_field Try.underlying110 rfl rfl (fun w => ⟨_, Try.sizeOf3 w⟩) rfl rfl ?_
          refine WL_guard rfl rfl ?_
          refine WL_load_box hC9 0 rfl rfl Try.isAgg3 rfl rfl ?_
          refine WL_guard rfl rfl ?_
          refine WL_leq rfl rfl rfl ?_
          refine WL_pick_f rfl rfl rfl ?_
          refine WL_assign rfl rfl ?_
          refine WL_nil ?_
          have hq6 := Option.some.inj hr4
          subst hq6
          have hC12 : Ctx [] w0 _ [] := hC9.headN 0
          refine nrm_sub (l' := [(6, (.bool (decide ((List.length a3.2 : Int) ≤ x2.2.2.1))))]) ⟨rfl, trivial⟩ ?_
          exact ⟨(decide ((List.length a3.2 : Int) ≤ x2.2.2.1)), rfl, rfl, (Below.refl _ _), hC12⟩
      · rintro _ w11 ⟨x6, rfl, rfl, hB10, hC10⟩
        try dsimp only at hF
        refine W_ret ?_
        have hq7 := Option.some.inj hF
        subst hq7
        refine fn_ret1 rfl rfl ?_
        exact ⟨_, rfl, bool_res hC10 _⟩

theorem c_Q_toTold {w0 : World} (a1 : ((Int × (List Int)) × (List (Int × (List Int))))) (u1 : Value) (g1 : RO [] w0 u1 a1.1.2) (u2 : Value) (g2 : RO [] w0 u2 a1.2) (rr : ((Int × (List Int)) × (List (Int × (List Int))))) (hF : Q.toTold a1 = some rr) :
    Calls Try.prog 17 [(.agg #[(.int .i64 a1.1.1), u1, u2])].toArray w0 fun e w' => ∃ v, e = .returned v ∧ Res w0 rr v w' := by
  refine calls_of_W Try.func17 rfl rfl ?_
  have hC0 := Ctx.start w0
  unfold Q.toTold at hF
  refine W_seq_reg ?_
  refine WL_box (cs := [(.int .i64 a1.1.1), u1, u2]) hC0 rfl rfl rfl (fun b1 w1 hC1 hB1 => ?_)
  refine WL_alloc hC1 zero38 rfl rfl (fun b2 w2 hC2 hB2 => ?_)
  refine WL_nil ?_
  refine W_seq_reg ?_
  refine WL_alloc hC2 zero38 rfl rfl (fun b3 w3 hC3 hB3 => ?_)
  refine WL_nil ?_
  refine W_seq_reg ?_
  refine WL_field Try.underlying28 rfl rfl (fun w => ⟨_, Try.sizeOf25 w⟩) rfl rfl ?_
  refine WL_load_box_agg [(.int .i64 a1.1.1), u1] hC3 2 rfl rfl rfl Try.isAgg25 Try.sizeOf25 rfl rfl ?_
  obtain ⟨x1, hr1, hF⟩ := bind_some hF
  refine WL_call Try.call61 rfl rfl (c_Q_toAccess (a1.1.1, a1.1.2) u1 (g1.now hC3.keep) x1 hr1) ?_
  rintro v1 w4 ⟨hB4, F1, hv1, hn1, hb1⟩
  have hC4 := hC3.push hB4 (A := Item.own v1 x1) hv1 hn1 hb1
  obtain ⟨v2, rfl, hC5⟩ := st35_own hC4
  refine WL_field Try.underlying38 rfl rfl (fun w => ⟨_, Try.sizeOf35 w⟩) rfl rfl ?_
  refine WL_store_box_agg (cs' := [(.int .i64 x1.1), v2, (.slice none 0 0)]) (new := [(.int .i64 x1.1), v2]) hC5 1 rfl rfl (by intro v hv; simp only [List.mem_cons, List.not_mem_nil, or_false] at hv; rcases hv with rfl | rfl; exact rfl; exact (ro_one (hC5.ro 0 rfl))) rfl Try.sizeOf35 rfl rfl (fun w5 hC6 => ?_)
  try dsimp only [List.set] at hC6
  refine WL_nil ?_
  refine W_seq_reg ?_
  refine WL_field Try.underlying28 rfl rfl (fun w => ⟨_, Try.sizeOf26 w⟩) rfl rfl ?_
  refine WL_load_box hC6 3 rfl rfl Try.isAgg26 rfl rfl ?_
  obtain ⟨x2, hr2, hF⟩ := bind_some hF
  refine WL_call Try.call39 rfl rfl (c_Q_toFactS a1.2 u2 (g2.now hC6.keep) x2 hr2) ?_
  rintro v3 w6 ⟨hB5, F2, hv2, hn2, hb2⟩
  have hC7 := hC6.push hB5 (A := Item.own v3 x2) hv2 hn2 hb2
  refine WL_field Try.underlying38 rfl rfl (fun w => ⟨_, Try.sizeOf36 w⟩) rfl rfl ?_
  refine WL_store_box (cs' := [(.int .i64 x1.1), v2, v3]) hC7 2 rfl rfl (ro_one (hC7.ro 0 rfl)) rfl Try.sizeOf36 rfl rfl (fun w7 hC8 => ?_)
  try dsimp only [List.set] at hC8
  refine WL_nil ?_
  refine W_seq_reg ?_
  refine WL_load_box_agg [(.int .i64 x1.1), v2, v3] hC8 2 rfl rfl rfl Try.isAgg38 Try.sizeOf38 rfl rfl ?_
  refine WL_store_box_agg (cs' := [(.int .i64 x1.1), v2, v3]) (new := [(.int .i64 x1.1), v2, v3]) hC8 3 rfl rfl (by intro v hv; simp only [List.mem_cons, List.not_mem_nil, or_false] at hv; rcases hv with rfl | rfl | rfl; exact rfl; exact (ro_one (hC8.ro 1 rfl)); exact (ro_one (hC8.ro 0 rfl))) rfl Try.sizeOf38 rfl rfl (fun w8 hC9 => ?_)
  try dsimp only [List.set] at hC9
  refine WL_nil ?_
  refine W_ret ?_
  have hq1 := Option.some.inj hF
  subst hq1
  refine fn_retG1 rfl (rv_cell_agg (cs' := [(.int .i64 x1.1), v2, v3]) hC9 (i := 3) rfl rfl rfl Try.isAgg38 Try.sizeOf38 rfl) ?_
  have hC12 : Ctx [] w0 _ [Item.own v2 (x1.2 : (List Int)), Item.own v3 (x2 : (List (Int × (List Int)))), Item.box b3 [(.int .i64 x1.1), v2, v3], Item.box b2 [(.int .i64 x1.1), v2, v3], Item.box b1 [(.int .i64 a1.1.1), u1, u2]] := hC9.front 1 rfl
  have hC10 := own_st38 x1.1 v2 x1.2 v3 x2 hC12
  exact ⟨_, rfl, own_res hC10 0 rfl⟩

theorem c_M_IsTold {w0 : World} (a1 : (List Int)) (u1 : Value) (g1 : RO [] w0 u1 a1) (a2 : (List (Int × (List Int) × Int × Int × Int))) (u2 : Value) (g2 : RO [] w0 u2 a2) (a3 : ((Int × (List Int)) × (List (Int × (List Int))))) (u3 : Value) (g3 : RO [] w0 u3 a3.1.2) (u4 : Value) (g4 : RO [] w0 u4 a3.2) (rr : Bool) (hF : M.IsTold a1 a2 a3 = some rr) :
    Calls Try.prog 73 [u1, u2, (.agg #[(.int .i64 a3.1.1), u3, u4])].toArray w0 fun e w' => ∃ v, e = .returned v ∧ Res w0 rr v w' := by
  refine calls_of_W Try.func73 rfl rfl ?_
  have hC0 := Ctx.start w0
  unfold M.IsTold at hF
  refine W_seq_reg ?_
  refine WL_box (cs := [(.int .i64 a3.1.1), u3, u4]) hC0 rfl rfl rfl (fun b1 w1 hC1 hB1 => ?_)
  refine WL_assign rfl rfl ?_
  refine WL_nil ?_
  obtain ⟨r1, hr1, hF⟩ := bind_some hF
  refine W_cut (fun l w => ∃ x1 : Bool, x1 = r1 ∧ l = [(6, (.bool x1))] ∧ Below w1.heap.size w1 w ∧ Ctx [] w0 w []) ?_ ?_
  · refine W_reg ?_
    refine WL_move rfl rfl ?_
    refine WL_move rfl rfl ?_
    refine WL_field Try.underlying38 rfl rfl (fun w => ⟨_, Try.sizeOf35 w⟩) rfl rfl ?_
    refine WL_load_box_agg [(.int .i64 a3.1.1), u3] hC1 0 rfl rfl rfl Try.isAgg35 Try.sizeOf35 rfl rfl ?_
    obtain ⟨x2, hr2, hr1⟩ := bind_some hr1
    refine WL_call Try.call114 rfl rfl (c_M_IsAccess a1 u1 (g1.now hC1.keep) a2 u2 (g2.now hC1.keep) (a3.1.1, a3.1.2) u3 (g3.now hC1.keep) x2 hr2) ?_
    intro _ w3 hv1
    obtain ⟨rfl, hB3⟩ := res_bool hv1
    have hC3 := hC1.grow hB3
    refine WL_move rfl rfl ?_
    refine WL_fork (fun hc1 => ?_) (fun hc1 => ?_)
    · replace hr1 := ite_t hr1 hc1
      refine WL_guard rfl rfl ?_
      refine WL_move rfl rfl ?_
      refine WL_guard rfl rfl ?_
      refine WL_field Try.underlying38 rfl rfl (fun w => ⟨_, Try.sizeOf36 w⟩) rfl rfl ?_
      refine WL_guard rfl rfl ?_
      refine WL_load_box hC3 0 rfl rfl Try.isAgg36 rfl rfl ?_
      obtain ⟨x3, hr3, hr1⟩ := bind_some hr1
      refine WL_guard rfl rfl ?_
      refine WL_call Try.call118 rfl rfl (c_M_AreFacts a1 u1 (g1.now hC3.keep) a3.2 u4 (g4.now hC3.keep) x3 hr3) ?_
      intro _ w4 hv2
      obtain ⟨rfl, hB4⟩ := res_bool hv2
      have hC4 := hC3.grow hB4
      refine WL_pick_t rfl rfl rfl ?_
      refine WL_assign rfl rfl ?_
      refine WL_nil ?_
      have hq1 := Option.some.inj hr1
      subst hq1
      have hC5 : Ctx [] w0 _ [] := hC4.headN 0
      refine nrm_sub (l' := [(6, (.bool x3))]) ⟨rfl, trivial⟩ ?_
      exact ⟨x3, rfl, rfl, ((Keep.of hB3).then hB4).below, hC5⟩
    · replace hr1 := ite_f hr1 hc1
      refine WL_guard_skip rfl rfl (by simp) rfl ?_
      refine WL_guard_skip rfl rfl (by simp) rfl ?_
      refine WL_guard_skip rfl rfl (by simp) rfl ?_
      refine WL_guard_skip rfl rfl (by simp) rfl ?_
      refine WL_pick_f rfl rfl rfl ?_
      refine WL_assign rfl rfl ?_
      refine WL_nil ?_
      have hq2 := Option.some.inj hr1
      subst hq2
      have hC6 : Ctx [] w0 _ [] := hC3.headN 0
      refine nrm_sub (l' := [(6, (.bool false))]) ⟨rfl, trivial⟩ ?_
      exact ⟨false, rfl, rfl, (Keep.of hB3).below, hC6⟩
  · rintro _ w2 ⟨x1, rfl, rfl, hB2, hC2⟩
    try dsimp only at hF
    refine W_ret ?_
    have hq3 := Option.some.inj hF
    subst hq3
    refine fn_ret1 rfl rfl ?_
    exact ⟨_, rfl, bool_res hC2 _⟩

theorem c_M_copyFact {w0 : World} (a1 : (Int × (List Int))) (u1 : Value) (g1 : RO [] w0 u1 a1.2) (rr : (Int × (List Int))) (hF : M.copyFact a1 = some rr) :
    Calls Try.prog 124 [(.agg #[(.int .i64 a1.1), u1])].toArray w0 fun e w' => ∃ v, e = .returned v ∧ Res w0 rr v w' := by
  refine calls_of_W Try.func124 rfl rfl ?_
  have hC0 := Ctx.start w0
  unfold M.copyFact at hF
  refine W_seq_reg ?_
  refine WL_box (cs := [(.int .i64 a1.1), u1]) hC0 rfl rfl rfl (fun b1 w1 hC1 hB1 => ?_)
  refine WL_alloc hC1 zero77 rfl rfl (fun b2 w2 hC2 hB2 => ?_)
  refine WL_nil ?_
  refine W_seq ?_
  refine W_drawn 7 rfl hmix (fun w3 hB3 => ?_)
  have hC3 := hC2.grow hB3
  refine WA_take 0 rfl (by kernel_rfl) (by kernel_rfl) (by kernel_rfl) rfl (fl_field Try.underlying77 rfl rfl (fun w => ⟨_, Try.sizeOf3 w⟩) rfl) ?_
  refine WL_field Try.underlying77 rfl rfl (fun w => ⟨_, Try.sizeOf3 w⟩) rfl rfl ?_
  refine WL_nil ?_
  refine WA_take 2 rfl (by kernel_rfl) (by kernel_rfl) (by kernel_rfl) rfl (fl_field Try.underlying77 rfl rfl (fun w => ⟨_, Try.sizeOf22 w⟩) rfl) ?_
  refine WL_field Try.underlying77 rfl rfl (fun w => ⟨_, Try.sizeOf22 w⟩) rfl rfl ?_
  refine WL_nil ?_
  obtain ⟨x1, hr1, hF⟩ := bind_some hF
  refine WA.sub (l' := [(0, (.agg #[(.int .i64 a1.1), u1])), (1, (ptr b1 0)), (2, (ptr b2 0)), (3, (ptr b1 0)), (5, (ptr b1 1))]) ?_ ⟨rfl, rfl, rfl, rfl, rfl, trivial⟩
  refine WA_postsE [⟨1, [], fun vs => PW.val (.int .i64 a1.1), []⟩, ⟨3, [], fun vs => PW.val u1, []⟩, ⟨4, [], fun vs => PW.own x1, []⟩] [[], [], [3]] 2 rfl (by kernel_rfl) (by kernel_rfl) rfl ?_ ?_
  · refine StepsE_cons rfl ?_ ?_
    · intro w5 hB5
      refine DepsE_nil ?_
      refine ⟨_, rfl, ?_⟩
      refine WL_load_box (hC3.grow hB5) 1 rfl rfl Try.isAgg3 rfl rfl ?_
      refine WL_nil ?_
      exact FinE_val (Below.refl _ _) rfl rfl ⟨rfl, rfl⟩
    refine StepsE_cons rfl ?_ ?_
    · intro w5 hB5
      refine DepsE_nil ?_
      refine ⟨_, rfl, ?_⟩
      refine WL_load_box (hC3.grow hB5) 1 rfl rfl Try.isAgg22 rfl rfl ?_
      refine WL_nil ?_
      exact FinE_val (Below.refl _ _) rfl rfl ⟨rfl, rfl⟩
    refine StepsE_cons rfl ?_ ?_
    · intro w5 hB5
      refine DepsE_cons rfl rfl rfl ?_
      rintro _ _ ⟨rfl, rfl⟩ _
      refine DepsE_nil ?_
      refine ⟨_, rfl, ?_⟩
      refine WL_call Try.call141 rfl rfl (c_Slices_Clone_Lint_int a1.2 u1 (g1.now (hC3.keep.then hB5)) x1 hr1) ?_
      rintro v1 w4 ⟨hB4, F1, hv1, hn1, hb1⟩
      refine WL_nil ?_
      exact FinE_own hB4 rfl rfl hv1 hn1 hb1 (Val.inh hv1)
    exact StepsE_nil
  · intro w6 hB6
    refine AllE_cons rfl rfl rfl ?_
    rintro _ _ ⟨rfl, rfl⟩
    refine AllE_cons rfl rfl rfl ?_
    rintro _ _ ⟨rfl, rfl⟩
    refine AllE_cons rfl rfl rfl ?_
    intro v1 F1 hv1
    refine AllE_nil ?_
    intro hn2 hb2
    have hC4 := hC3.pushL hB6 (Bs := [Item.own v1 (x1 : (List Int))]) (Fs := [F1]) ⟨F1, _, rfl, hv1, rfl⟩ (by simpa using hn2) (fun b h => (hb2 b (by simpa using h)).1)
    refine WA_take 5 rfl (by kernel_rfl) (by kernel_rfl) (by kernel_rfl) rfl (fl_build (vs := [(0, (.int .i64 a1.1)), (1, v1)]) rfl rfl (built77_0_1 rfl (ro_cells (hC4.ro 0 rfl)))) ?_
    refine WL_build (vs := [(0, (.int .i64 a1.1)), (1, v1)]) rfl rfl rfl (built77_0_1 rfl (ro_cells (hC4.ro 0 rfl))) ?_
    refine WL_nil ?_
    refine WA_one 6 (by kernel_rfl) rfl ?_
    refine WL_store_box_agg (cs' := [(.int .i64 a1.1), v1]) (new := [(.int .i64 a1.1), v1]) hC4 1 rfl rfl (by intro v hv; simp only [List.mem_cons, List.not_mem_nil, or_false] at hv; rcases hv with rfl | rfl; exact rfl; exact (ro_one (hC4.ro 0 rfl))) rfl Try.sizeOf77 rfl rfl (fun w7 hC5 => ?_)
    try dsimp only [List.set] at hC5
    refine WL_nil ?_
    refine WA_done (by kernel_rfl) ?_
    refine nrm_normal ?_
    refine W_ret ?_
    have hq1 := Option.some.inj hF
    subst hq1
    refine fn_retG1 rfl (rv_cell_agg (cs' := [(.int .i64 a1.1), v1]) hC5 (i := 1) rfl rfl rfl Try.isAgg77 Try.sizeOf77 rfl) ?_
    have hC6 := own_st77 a1.1 v1 x1 hC5
    exact ⟨_, rfl, own_res hC6 0 rfl⟩

theorem c_M_copyFacts {w0 : World} (a1 : (List (Int × (List Int)))) (u1 : Value) (g1 : RO [] w0 u1 a1) (rr : (List (Int × (List Int)))) (hF : M.copyFacts a1 = some rr) :
    Calls Try.prog 119 [u1].toArray w0 fun e w' => ∃ v, e = .returned v ∧ Res w0 rr v w' := by
  refine calls_of_W Try.func119 rfl rfl ?_
  have hC0 := Ctx.start w0
  unfold M.copyFacts at hF
  refine W_seq_reg ?_
  refine WL_assign rfl rfl ?_
  refine WL_nil ?_
  refine W_seq_reg ?_
  refine WL_buildSlice (vs := []) hC0 Try.underlying36 ty77 rfl rfl rfl rfl (by simp) rfl rfl (fun b1 w1 hC1 hB1 => ?_)
  have hC2 := hC1.row0 (α := (Int × (List Int)))
  have hC3 := hC2.front 1 rfl
  dsimp only [List.eraseIdx, List.cons_append, List.nil_append, List.append_nil] at hC3
  have hC4 : Ctx [] w0 w1 (Item.own (.slice (some ⟨b1, 0, none⟩) 0 0) (([] : List (Int × (List Int))) : List (Int × (List Int))) :: []) := hC3.rowOwn (by simp [maxLen])
  refine WL_assign rfl rfl ?_
  refine WL_nil ?_
  refine W_seq ?_
  refine W_seq_reg ?_
  refine WL_move rfl rfl ?_
  refine WL_len Try.underlying36 g1 rfl rfl ?_
  refine WL_move rfl rfl ?_
  refine WL_nil ?_
  obtain ⟨r1, hr1, hF⟩ := bind_some hF
  refine W_norm (fun l w => ∃ v2 : Value, ∃ x3 : (List (Int × (List Int))), x3 = r1 ∧ l = [(3, v2)] ∧ Ctx [] w0 w [Item.own v2 (x3 : (List (Int × (List Int))))]) ?_ ?_
  · refine W_block ?_
    refine W.sub (l' := [(3, (.slice (some ⟨b1, 0, none⟩) 0 0)), (7, u1), (8, (.int .i64 (List.length a1 : Int))), (9, (.int .i64 0))]) ?_ ⟨rfl, rfl, rfl, rfl, trivial⟩
    refine W_loop (fun k l w => ∃ v1 : Value, ∃ x1 : (List (Int × (List Int))), ∃ x2 : Int, l = [(3, v1), (7, u1), (8, (.int .i64 (List.length a1 : Int))), (9, (.int .i64 x2))] ∧ Ctx [] w0 w [Item.own v1 (x1 : (List (Int × (List Int))))] ∧ M.copyFacts_l1 a1 k x1 x2 = some r1) FUEL ⟨(.slice (some ⟨b1, 0, none⟩) 0 0), ([] : List (Int × (List Int))), 0, rfl, hC4, hr1⟩ ?_
    clear hr1
    rintro k1 _ w2 ⟨v1, x1, x2, rfl, hC5, hL1⟩
    cases k1 with
    | zero => rw [M.copyFacts_l1] at hL1; cases hL1
    | succ k1 =>
      rw [M.copyFacts_l1] at hL1
      refine W_seq_reg ?_
      refine WL_lss rfl rfl rfl ?_
      refine WL_nil ?_
      refine W_seq ?_
      refine W_cond rfl (fun hc1 => ?_) (fun hc1 => ?_)
      · replace hL1 := ite_t hL1 hc1
        refine W_skip ?_
        refine nrm_normal ?_
        refine W_seq ?_
        refine W_block ?_
        refine W_seq_reg ?_
        obtain ⟨x4, hx1, hL1⟩ := bind_some hL1
        refine WL_index Try.underlying36 ty77 g1 hx1 rfl rfl rfl (fun b2 o1 h1 => ?_)
        refine WL_load ty77 h1 hC5.keep rfl rfl (fun v3 h2 => ?_)
        obtain ⟨v4, rfl, h3⟩ := ro_st77 h2
        refine WL_alloc hC5 zero77 rfl rfl (fun b3 w3 hC6 hB3 => ?_)
        refine WL_store_box_agg (cs' := [(.int .i64 x4.1), v4]) (new := [(.int .i64 x4.1), v4]) hC6 0 rfl rfl (by intro v hv; simp only [List.mem_cons, List.not_mem_nil, or_false] at hv; rcases hv with rfl | rfl; exact rfl; exact (ro_one h3)) rfl Try.sizeOf77 rfl rfl (fun w4 hC7 => ?_)
        try dsimp only [List.set] at hC7
        refine WL_nil ?_
        refine W_reg ?_
        refine WL_move rfl rfl ?_
        refine WL_load_box_agg [(.int .i64 x4.1), v4] hC7 0 rfl rfl rfl Try.isAgg77 Try.sizeOf77 rfl rfl ?_
        obtain ⟨x5, hr2, hL1⟩ := bind_some hL1
        refine WL_call Try.call124 rfl rfl (c_M_copyFact (x4.1, x4.2) v4 (h3.now hC7.keep) x5 hr2) ?_
        rintro v5 w5 ⟨hB4, F1, hv1, hn1, hb1⟩
        have hC8 := hC7.push hB4 (A := Item.own v5 x5) hv1 hn1 hb1
        obtain ⟨v6, rfl, hC9⟩ := st77_own hC8
        refine WL_buildSlice (vs := [(.agg #[(.int .i64 x5.1), v6])]) hC9 Try.underlying36 ty77 rfl rfl rfl rfl (by intro v hv; simp only [List.mem_cons, List.not_mem_nil, or_false] at hv; rcases hv with rfl <;> rfl) rfl rfl (fun b4 w6 hC10 hB5 => ?_)
        have hC11 := hC10.row0 (α := (Int × (List Int)))
        have hC13 := hC11.front 2 rfl
        dsimp only [List.eraseIdx, List.cons_append, List.nil_append, List.append_nil] at hC13
        have hC12 := own_st77 x5.1 v6 x5.2 hC13
        have hC14 := hC12.row1
        have hC15 := hC14.front 1 rfl
        dsimp only [List.eraseIdx, List.cons_append, List.nil_append, List.append_nil] at hC15
        have hC16 : Ctx [] w0 w6 (Item.own (.slice (some ⟨b4, 0, none⟩) 1 1) ([(x5.1, x5.2)] : List (Int × (List Int))) :: [Item.box b3 [(.int .i64 x4.1), v4], Item.own v1 (x1 : (List (Int × (List Int))))]) := hC15.rowOwn (by simp [maxLen])
        obtain ⟨x6, hx2, hL1⟩ := bind_some hL1
        refine WL_append_head hC16 1 rfl Try.underlying36 ty77 rfl hx2 rfl rfl rfl (fun v7 w7 hC17 => ?_)
        try dsimp only [List.set] at hC17
        refine WL_assign rfl rfl ?_
        refine WL_nil ?_
        refine blk_normal ?_
        refine nrm_normal ?_
        refine W_reg ?_
        refine WL_add rfl rfl rfl ?_
        refine WL_move rfl rfl ?_
        refine WL_nil ?_
        have hC19 : Ctx [] w0 _ [Item.own v7 (x6 : (List (Int × (List Int)))), Item.box b3 [(.int .i64 x4.1), v4]] := hC17.front 1 rfl
        have hC20 : Ctx [] w0 _ [Item.own v7 (x6 : (List (Int × (List Int))))] := hC19.headN 1
        refine nrm_sub (l' := [(3, v7), (7, u1), (8, (.int .i64 (List.length a1 : Int))), (9, (.int .i64 (w64 (x2 + 1))))]) ⟨rfl, rfl, rfl, rfl, trivial⟩ ?_
        exact ⟨k1, Nat.lt_succ_self _, v7, x6, w64 (x2 + 1), rfl, hC20, hL1⟩
      · replace hL1 := ite_f hL1 hc1
        refine W_exit ?_
        refine nrm_exit ?_
        refine nrm_exit ?_
        refine blk_exit ?_
        have hq1 := Option.some.inj hL1
        subst hq1
        refine nrm_sub (l' := [(3, v1)]) ⟨rfl, trivial⟩ ?_
        exact ⟨v1, x1, rfl, rfl, hC5⟩
  · rintro l2 _ w8 hs2 ⟨v2, x3, rfl, rfl, hC21⟩
    try dsimp only at hF
    refine nrm_sub' hs2 ?_
    clear hs2
    refine W_seq_reg ?_
    refine WL_move rfl rfl ?_
    refine WL_assign rfl rfl ?_
    refine WL_nil ?_
    refine W_ret ?_
    have hq2 := Option.some.inj hF
    subst hq2
    refine fn_ret1 rfl rfl ?_
    exact ⟨_, rfl, own_res hC21 0 rfl⟩

theorem c_M_matches_c1 {w0 : World} (a1 : (Int × (List Int))) (u1 : Value) (g1 : RO [] w0 u1 a1.2) (pb1 : Nat) (ax1 : (Int × (List Int) × Int × Int × Int)) (g2 : ROAt [] w0 pb1 0 ax1) (pb2 : Nat) (ax2 : (Int × (List Int))) (g3 : ROAt [] w0 pb2 0 ax2) (rr : Bool) (hF : M.matches_c1 a1 ax1 ax2 = some rr) :
    Calls Try.prog 120 [(.agg #[(.int .i64 a1.1), u1]), (ptr pb1 0), (ptr pb2 0)].toArray w0 fun e w' => ∃ v, e = .returned v ∧ Res w0 rr v w' := by
  refine calls_of_W Try.func120 rfl rfl ?_
  have hC0 := Ctx.start w0
  unfold M.matches_c1 at hF
  refine W_seq_reg ?_
  refine WL_box (cs := [(.int .i64 a1.1), u1]) hC0 rfl rfl rfl (fun b1 w1 hC1 hB1 => ?_)
  refine WL_assign rfl rfl ?_
  refine WL_nil ?_
  refine W_seq ?_
  refine W_seq_reg ?_
  refine WL_field Try.underlying77 rfl rfl (fun w => ⟨_, Try.sizeOf3 w⟩) rfl rfl ?_
  refine WL_load_box hC1 0 rfl rfl Try.isAgg3 rfl rfl ?_
  refine WL_field Try.underlying110 rfl rfl (fun w => ⟨_, Try.sizeOf3 w⟩) rfl rfl ?_
  refine WL_load ty3 g2.fst hC1.keep rfl rfl (fun v1 h1 => ?_)
  obtain rfl := ro_int h1
  refine WL_neq rfl rfl rfl ?_
  refine WL_nil ?_
  refine W_cond rfl (fun hc1 => ?_) (fun hc1 => ?_)
  · replace hF := ite_t hF hc1
    refine W_seq_reg ?_
    refine WL_assign rfl rfl ?_
    refine WL_nil ?_
    refine W_ret ?_
    refine nrm_ret ?_
    have hq1 := Option.some.inj hF
    subst hq1
    refine fn_ret1 rfl rfl ?_
    exact ⟨_, rfl, bool_res hC1 _⟩
  · replace hF := ite_f hF hc1
    refine W_skip ?_
    refine nrm_normal ?_
    refine W_seq ?_
    refine W_seq_reg ?_
    refine WL_field Try.underlying110 rfl rfl (fun w => ⟨_, Try.sizeOf22 w⟩) rfl rfl ?_
    refine WL_load ty22 g2.snd.fst hC1.keep rfl rfl (fun v2 h2 => ?_)
    refine WL_len Try.underlying22 h2 rfl rfl ?_
    refine WL_move rfl rfl ?_
    refine WL_nil ?_
    obtain ⟨r1, hr1, hF⟩ := bind_some hF
    refine W_norm (fun l w => .inl () = r1 ∧ l = [] ∧ Below w1.heap.size w1 w ∧ Ctx [] w0 w []) ?_ ?_
    · refine W_block ?_
      refine W.sub (l' := [(2, (ptr pb2 0)), (3, (ptr b1 0)), (13, v2), (14, (.int .i64 (List.length ax1.2.1 : Int))), (15, (.int .i64 0))]) ?_ ⟨rfl, rfl, rfl, rfl, rfl, trivial⟩
      refine W_loop (fun k l w => ∃ x1 : Int, l = [(2, (ptr pb2 0)), (3, (ptr b1 0)), (13, v2), (14, (.int .i64 (List.length ax1.2.1 : Int))), (15, (.int .i64 x1))] ∧ Below w1.heap.size w1 w ∧ Ctx [] w0 w [Item.box b1 [(.int .i64 a1.1), u1]] ∧ M.matches_c1_l1 ax1 a1 ax2 k x1 = some r1) FUEL ⟨0, rfl, (Below.refl _ _), hC1, hr1⟩ ?_
      clear hr1
      rintro k1 _ w2 ⟨x1, rfl, hB2, hC2, hL1⟩
      cases k1 with
      | zero => rw [M.matches_c1_l1] at hL1; cases hL1
      | succ k1 =>
        rw [M.matches_c1_l1] at hL1
        refine W_seq_reg ?_
        refine WL_lss rfl rfl rfl ?_
        refine WL_nil ?_
        refine W_seq ?_
        refine W_cond rfl (fun hc2 => ?_) (fun hc2 => ?_)
        · replace hL1 := ite_t hL1 hc2
          refine W_skip ?_
          refine nrm_normal ?_
          refine W_seq ?_
          refine W_block ?_
          refine W_seq_reg ?_
          refine WL_move rfl rfl ?_
          obtain ⟨x2, hx1, hL1⟩ := bind_some hL1
          refine WL_index Try.underlying22 ty3 h2 hx1 rfl rfl rfl (fun b2 o1 h3 => ?_)
          refine WL_load ty3 h3 hC2.keep rfl rfl (fun v3 h4 => ?_)
          obtain rfl := ro_int h4
          refine WL_assign rfl rfl ?_
          refine WL_assign rfl rfl ?_
          refine WL_nil ?_
          refine W_seq ?_
          refine W_drawn 11 rfl hmix (fun w3 hB3 => ?_)
          have hC3 := hC2.grow hB3
          refine WA_take 0 rfl (by kernel_rfl) (by kernel_rfl) (by kernel_rfl) rfl (fl_field Try.underlying77 rfl rfl (fun w => ⟨_, Try.sizeOf22 w⟩) rfl) ?_
          refine WL_field Try.underlying77 rfl rfl (fun w => ⟨_, Try.sizeOf22 w⟩) rfl rfl ?_
          refine WL_nil ?_
          refine WA_take 2 rfl (by kernel_rfl) (by kernel_rfl) (by kernel_rfl) rfl (fl_move rfl) ?_
          refine WL_move rfl rfl ?_
          refine WL_nil ?_
          refine WA_take 5 rfl (by kernel_rfl) (by kernel_rfl) (by kernel_rfl) rfl (fl_field Try.underlying35 rfl rfl (fun w => ⟨_, Try.sizeOf22 w⟩) rfl) ?_
          refine WL_field Try.underlying35 rfl rfl (fun w => ⟨_, Try.sizeOf22 w⟩) rfl rfl ?_
          refine WL_nil ?_
          refine WA_take 7 rfl (by kernel_rfl) (by kernel_rfl) (by kernel_rfl) rfl (fl_move rfl) ?_
          refine WL_move rfl rfl ?_
          refine WL_nil ?_
          obtain ⟨x3, hx2, hL1⟩ := bind_some hL1
          obtain ⟨x4, hx3, hL1⟩ := bind_some hL1
          refine WA.sub (l' := [(2, (ptr pb2 0)), (3, (ptr b1 0)), (5, (.int .i64 x1)), (6, (.int .i64 x2)), (13, v2), (14, (.int .i64 (List.length ax1.2.1 : Int))), (15, (.int .i64 x1)), (16, (.bool (decide (x1 < (List.length ax1.2.1 : Int))))), (17, (.int .i64 x1)), (18, (ptr b2 o1)), (19, (.int .i64 x2)), (20, (ptr b1 1)), (22, (.int .i64 x2)), (25, (ptr pb2 (0 + 1))), (27, (.int .i64 x1))]) ?_ ⟨rfl, rfl, rfl, rfl, rfl, rfl, rfl, rfl, rfl, rfl, rfl, rfl, rfl, rfl, rfl, trivial⟩
          refine WA_postsE [⟨1, [], fun vs => PW.val u1, []⟩, ⟨3, [], fun vs => PW.at [] w0 x3, []⟩, ⟨4, [], fun vs => PW.val (.int .i64 x3), []⟩, ⟨6, [], fun vs => PW.ro [] w0 ax2.2, []⟩, ⟨8, [], fun vs => PW.at [] w0 x4, []⟩, ⟨9, [], fun vs => PW.val (.int .i64 x4), []⟩] [[], [1], [3], [], [6], [8]] 1 rfl (by kernel_rfl) (by kernel_rfl) rfl ?_ ?_
          · refine StepsE_cons rfl ?_ ?_
            · intro w4 hB4
              refine DepsE_nil ?_
              refine ⟨_, rfl, ?_⟩
              refine WL_load_box (hC3.grow hB4) 0 rfl rfl Try.isAgg22 rfl rfl ?_
              refine WL_nil ?_
              exact FinE_val (Below.refl _ _) rfl rfl ⟨rfl, rfl⟩
            refine StepsE_cons rfl ?_ ?_
            · intro w4 hB4
              refine DepsE_cons rfl rfl rfl ?_
              rintro _ _ ⟨rfl, rfl⟩ _
              refine DepsE_nil ?_
              refine ⟨_, rfl, ?_⟩
              refine WL_index Try.underlying22 ty3 g1 hx2 rfl rfl rfl (fun b3 o2 h5 => ?_)
              refine WL_nil ?_
              exact FinE_val (Below.refl _ _) rfl rfl ⟨rfl, _, _, rfl, h5⟩
            refine StepsE_cons rfl ?_ ?_
            · intro w4 hB4
              refine DepsE_cons rfl rfl rfl ?_
              rintro _ _ ⟨rfl, b3, o2, rfl, h5⟩ _
              refine DepsE_nil ?_
              refine ⟨_, rfl, ?_⟩
              refine WL_load ty3 h5 (hC3.keep.then hB4) rfl rfl (fun v4 h6 => ?_)
              obtain rfl := ro_int h6
              refine WL_nil ?_
              exact FinE_val (Below.refl _ _) rfl rfl ⟨rfl, rfl⟩
            refine StepsE_cons rfl ?_ ?_
            · intro w4 hB4
              refine DepsE_nil ?_
              refine ⟨_, rfl, ?_⟩
              refine WL_load ty22 g3.snd (hC3.keep.then hB4) rfl rfl (fun v5 h7 => ?_)
              refine WL_nil ?_
              exact FinE_val (Below.refl _ _) rfl rfl ⟨rfl, h7⟩
            refine StepsE_cons rfl ?_ ?_
            · intro w4 hB4
              refine DepsE_cons rfl rfl rfl ?_
              rintro v5 _ ⟨rfl, h7⟩ _
              refine DepsE_nil ?_
              refine ⟨_, rfl, ?_⟩
              refine WL_index Try.underlying22 ty3 h7 hx3 rfl rfl rfl (fun b4 o3 h8 => ?_)
              refine WL_nil ?_
              exact FinE_val (Below.refl _ _) rfl rfl ⟨rfl, _, _, rfl, h8⟩
            refine StepsE_cons rfl ?_ ?_
            · intro w4 hB4
              refine DepsE_cons rfl rfl rfl ?_
              rintro _ _ ⟨rfl, b4, o3, rfl, h8⟩ _
              refine DepsE_nil ?_
              refine ⟨_, rfl, ?_⟩
              refine WL_load ty3 h8 (hC3.keep.then hB4) rfl rfl (fun v6 h9 => ?_)
              obtain rfl := ro_int h9
              refine WL_nil ?_
              exact FinE_val (Below.refl _ _) rfl rfl ⟨rfl, rfl⟩
            exact StepsE_nil
          · intro w5 hB5
            refine AllE_cons rfl rfl rfl ?_
            rintro _ _ ⟨rfl, rfl⟩
            refine AllE_cons rfl rfl rfl ?_
            rintro _ _ ⟨rfl, b3, o2, rfl, h5⟩
            refine AllE_cons rfl rfl rfl ?_
            rintro _ _ ⟨rfl, rfl⟩
            refine AllE_cons rfl rfl rfl ?_
            rintro v5 _ ⟨rfl, h7⟩
            refine AllE_cons rfl rfl rfl ?_
            rintro _ _ ⟨rfl, b4, o3, rfl, h8⟩
            refine AllE_cons rfl rfl rfl ?_
            rintro _ _ ⟨rfl, rfl⟩
            refine AllE_nil ?_
            intro hn1 hb1
            have hC4 := hC3.grow hB5
            refine WA_take 10 rfl (by kernel_rfl) (by kernel_rfl) (by kernel_rfl) rfl (fl_neq rfl rfl) ?_
            refine WL_neq rfl rfl rfl ?_
            refine WL_nil ?_
            refine WA_done (by kernel_rfl) ?_
            refine nrm_normal ?_
            refine W_cond rfl (fun hc3 => ?_) (fun hc3 => ?_)
            · replace hL1 := ite_t hL1 hc3
              refine W_seq_reg ?_
              refine WL_assign rfl rfl ?_
              refine WL_nil ?_
              refine W_ret ?_
              refine blk_ret ?_
              refine nrm_ret ?_
              refine nrm_ret ?_
              refine blk_ret ?_
              refine nrm_ret ?_
              refine nrm_ret ?_
              have hq2 := Option.some.inj hL1
              subst hq2
              dsimp only at hF
              have hq3 := Option.some.inj hF
              subst hq3
              refine fn_ret1 rfl rfl ?_
              exact ⟨_, rfl, bool_res hC4 _⟩
            · replace hL1 := ite_f hL1 hc3
              refine W_skip ?_
              refine blk_normal ?_
              refine nrm_normal ?_
              refine W_reg ?_
              refine WL_add rfl rfl rfl ?_
              refine WL_move rfl rfl ?_
              refine WL_nil ?_
              refine nrm_sub (l' := [(2, (ptr pb2 0)), (3, (ptr b1 0)), (13, v2), (14, (.int .i64 (List.length ax1.2.1 : Int))), (15, (.int .i64 (w64 (x1 + 1))))]) ⟨rfl, rfl, rfl, rfl, rfl, trivial⟩ ?_
              exact ⟨k1, Nat.lt_succ_self _, w64 (x1 + 1), rfl, (((Keep.of hB2).then hB3).then hB5).below, hC4, hL1⟩
        · replace hL1 := ite_f hL1 hc2
          refine W_exit ?_
          refine nrm_exit ?_
          refine nrm_exit ?_
          refine blk_exit ?_
          have hq4 := Option.some.inj hL1
          subst hq4
          have hC5 : Ctx [] w0 _ [] := hC2.headN 0
          refine nrm_sub (l' := []) trivial ?_
          exact ⟨rfl, rfl, (Keep.of hB2).below, hC5⟩
    · rintro l2 _ w6 hs2 ⟨rfl, rfl, hB6, hC6⟩
      try dsimp only at hF
      refine nrm_sub' hs2 ?_
      clear hs2
      refine W_seq_reg ?_
      refine WL_assign rfl rfl ?_
      refine WL_nil ?_
      refine W_ret ?_
      have hq5 := Option.some.inj hF
      subst hq5
      refine fn_ret1 rfl rfl ?_
      exact ⟨_, rfl, bool_res hC6 _⟩

theorem c_Slices_IndexFunc_Limpl_Fact_impl_Fact_M_matches_c1 {w0 : World} (a1 : (List (Int × (List Int)))) (u1 : Value) (g1 : RO [] w0 u1 a1) (pb1 : Nat) (ax1 : (Int × (List Int) × Int × Int × Int)) (g2 : ROAt [] w0 pb1 0 ax1) (pb2 : Nat) (ax2 : (Int × (List Int))) (g3 : ROAt [] w0 pb2 0 ax2) (rr : Int) (hF : Slices.IndexFunc_Limpl_Fact_impl_Fact_M_matches_c1 a1 ax1 ax2 = some rr) :
    Calls Try.prog 121 [u1, (.func (.func 120) #[] #[(ptr pb1 0), (ptr pb2 0)])].toArray w0 fun e w' => ∃ v, e = .returned v ∧ Res w0 rr v w' := by
  refine calls_of_W Try.func121 rfl rfl ?_
  have hC0 := Ctx.start w0
  unfold Slices.IndexFunc_Limpl_Fact_impl_Fact_M_matches_c1 at hF
  refine W_seq_reg ?_
  refine WL_assign rfl rfl ?_
  refine WL_nil ?_
  refine W_seq ?_
  refine W_seq_reg ?_
  refine WL_move rfl rfl ?_
  refine WL_len Try.underlying36 g1 rfl rfl ?_
  refine WL_move rfl rfl ?_
  refine WL_nil ?_
  obtain ⟨r1, hr1, hF⟩ := bind_some hF
  refine W_norm (fun l w => .inl () = r1 ∧ l = [] ∧ Below w0.heap.size w0 w ∧ Ctx [] w0 w []) ?_ ?_
  · refine W_block ?_
    refine W.sub (l' := [(0, u1), (1, (.func (.func 120) #[] #[(ptr pb1 0), (ptr pb2 0)])), (7, (.int .i64 (List.length a1 : Int))), (8, (.int .i64 0))]) ?_ ⟨rfl, rfl, rfl, rfl, trivial⟩
    refine W_loop (fun k l w => ∃ x1 : Int, l = [(0, u1), (1, (.func (.func 120) #[] #[(ptr pb1 0), (ptr pb2 0)])), (7, (.int .i64 (List.length a1 : Int))), (8, (.int .i64 x1))] ∧ Below w0.heap.size w0 w ∧ Ctx [] w0 w [] ∧ Slices.IndexFunc_Limpl_Fact_impl_Fact_M_matches_c1_l1 a1 ax1 ax2 k x1 = some r1) FUEL ⟨0, rfl, (Below.refl _ _), hC0, hr1⟩ ?_
    clear hr1
    rintro k1 _ w1 ⟨x1, rfl, hB1, hC1, hL1⟩
    cases k1 with
    | zero => rw [Slices.IndexFunc_Limpl_Fact_impl_Fact_M_matches_c1_l1] at hL1; cases hL1
    | succ k1 =>
      rw [Slices.IndexFunc_Limpl_Fact_impl_Fact_M_matches_c1_l1] at hL1
      refine W_seq_reg ?_
      refine WL_lss rfl rfl rfl ?_
      refine WL_nil ?_
      refine W_seq ?_
      refine W_cond rfl (fun hc1 => ?_) (fun hc1 => ?_)
      · replace hL1 := ite_t hL1 hc1
        refine W_skip ?_
        refine nrm_normal ?_
        refine W_seq ?_
        refine W_block ?_
        refine W_seq_reg ?_
        refine WL_move rfl rfl ?_
        refine WL_assign rfl rfl ?_
        refine WL_nil ?_
        refine W_seq_reg ?_
        refine WL_move rfl rfl ?_
        refine WL_move rfl rfl ?_
        refine WL_move rfl rfl ?_
        obtain ⟨x2, hx1, hL1⟩ := bind_some hL1
        refine WL_index Try.underlying36 ty77 g1 hx1 rfl rfl rfl (fun b1 o1 h1 => ?_)
        refine WL_load ty77 h1 hC1.keep rfl rfl (fun v1 h2 => ?_)
        obtain ⟨v2, rfl, h3⟩ := ro_st77 h2
        obtain ⟨x3, hr2, hL1⟩ := bind_some hL1
        refine WL_callv (cap := [(ptr pb1 0), (ptr pb2 0)]) Try.call120 rfl rfl rfl (c_M_matches_c1 x2 v2 (h3.now hC1.keep) pb1 ax1 (g2.now hC1.keep) pb2 ax2 (g3.now hC1.keep) x3 hr2) ?_
        intro _ w2 hv1
        obtain ⟨rfl, hB2⟩ := res_bool hv1
        have hC2 := hC1.grow hB2
        refine WL_nil ?_
        refine W_cond rfl (fun hc2 => ?_) (fun hc2 => ?_)
        · replace hL1 := ite_t hL1 hc2
          refine W_seq_reg ?_
          refine WL_move rfl rfl ?_
          refine WL_assign rfl rfl ?_
          refine WL_nil ?_
          refine W_ret ?_
          refine blk_ret ?_
          refine nrm_ret ?_
          refine nrm_ret ?_
          refine blk_ret ?_
          refine nrm_ret ?_
          refine nrm_ret ?_
          have hq1 := Option.some.inj hL1
          subst hq1
          dsimp only at hF
          have hq2 := Option.some.inj hF
          subst hq2
          refine fn_ret1 rfl rfl ?_
          exact ⟨_, rfl, int_res hC2 _⟩
        · replace hL1 := ite_f hL1 hc2
          refine W_skip ?_
          refine blk_normal ?_
          refine nrm_normal ?_
          refine W_reg ?_
          refine WL_add rfl rfl rfl ?_
          refine WL_move rfl rfl ?_
          refine WL_nil ?_
          refine nrm_sub (l' := [(0, u1), (1, (.func (.func 120) #[] #[(ptr pb1 0), (ptr pb2 0)])), (7, (.int .i64 (List.length a1 : Int))), (8, (.int .i64 (w64 (x1 + 1))))]) ⟨rfl, rfl, rfl, rfl, trivial⟩ ?_
          exact ⟨k1, Nat.lt_succ_self _, w64 (x1 + 1), rfl, ((Keep.of hB1).then hB2).below, hC2, hL1⟩
      · replace hL1 := ite_f hL1 hc1
        refine W_exit ?_
        refine nrm_exit ?_
        refine nrm_exit ?_
        refine blk_exit ?_
        have hq3 := Option.some.inj hL1
        subst hq3
        refine nrm_sub (l' := []) trivial ?_
        exact ⟨rfl, rfl, (Keep.of hB1).below, hC1⟩
  · rintro l2 _ w3 hs2 ⟨rfl, rfl, hB3, hC3⟩
    try dsimp only at hF
    refine nrm_sub' hs2 ?_
    clear hs2
    refine W_seq_reg ?_
    refine WL_assign rfl rfl ?_
    refine WL_nil ?_
    refine W_ret ?_
    have hq4 := Option.some.inj hF
    subst hq4
    refine fn_ret1 rfl rfl ?_
    exact ⟨_, rfl, int_res hC3 _⟩

theorem c_Slices_DeleteFunc_Limpl_Fact_impl_Fact_M_matches_c1 {Fs : List (List Nat)} {w0 : World} (a1 : (List (Int × (List Int)))) (u1 : Value) (pb1 : Nat) (ax1 : (Int × (List Int) × Int × Int × Int)) (g1 : ROAt Fs.flatten w0 pb1 0 ax1) (pb2 : Nat) (ax2 : (Int × (List Int))) (g2 : ROAt Fs.flatten w0 pb2 0 ax2) (hH : Hold [Item.own u1 (a1 : (List (Int × (List Int))))] w0 Fs) (hn : Fs.flatten.Nodup) (rr : (List (Int × (List Int)))) (hF : Slices.DeleteFunc_Limpl_Fact_impl_Fact_M_matches_c1 a1 ax1 ax2 = some rr) :
    Calls Try.prog 107 [u1, (.func (.func 120) #[] #[(ptr pb1 0), (ptr pb2 0)])].toArray w0 fun e w' => ∃ v, e = .returned v ∧ ∃ q0 : Value, v = q0 ∧ Ctx Fs.flatten w0 w' [Item.own q0 (rr : (List (Int × (List Int))))] := by
  refine calls_of_W Try.func107 rfl rfl ?_
  have hC0 := Ctx.startIn hH hn
  unfold Slices.DeleteFunc_Limpl_Fact_impl_Fact_M_matches_c1 at hF
  obtain ⟨x, hx, hF⟩ := bind_some hF
  refine W_seq_reg ?_
  refine WL_assign rfl rfl ?_
  refine WL_nil ?_
  refine W_seq_reg ?_
  refine WL_move rfl rfl ?_
  refine WL_move rfl rfl ?_
  refine WL_call Try.call121 rfl rfl (c_Slices_IndexFunc_Limpl_Fact_impl_Fact_M_matches_c1 a1 u1 (hC0.ro 0 rfl) pb1 ax1 (g1.now (Keep.refl _ _)) pb2 ax2 (g2.now (Keep.refl _ _)) x hx) ?_
  intro _ w1 hv1
  obtain ⟨rfl, hB1⟩ := res_int hv1
  have hC1 := hC0.grow hB1
  refine WL_assign rfl rfl ?_
  refine WL_nil ?_
  refine W_seq ?_
  refine W_seq_reg ?_
  refine WL_move rfl rfl ?_
  refine WL_eql rfl rfl rfl ?_
  by_cases hx1 : x = -1
  · rw [if_pos hx1] at hF
    obtain rfl := Option.some.inj hF
    rw [decide_eq_true hx1]
    refine WL_nil ?_
    refine W_cond_t rfl ?_
    refine W_seq_reg ?_
    refine WL_move rfl rfl ?_
    refine WL_assign rfl rfl ?_
    refine WL_nil ?_
    refine W_ret ?_
    refine nrm_ret ?_
    refine fn_ret1 rfl rfl ?_
    exact ⟨_, rfl, _, rfl, hC1⟩
  · rw [if_neg hx1] at hF
    have hr : 0 ≤ x ∧ x < (a1.length : Int) := Classical.byContradiction fun h => by rw [if_neg h] at hF; cases hF
    rw [if_pos hr] at hF
    obtain ⟨m, rfl⟩ : ∃ m : Nat, x = m := ⟨x.toNat, by omega⟩
    have hm : m < a1.length := by omega
    have hlim := (hC0.ro 0 rfl).lt
    simp only [maxLen] at hlim
    rw [Int.toNat_natCast] at hF
    rw [decide_eq_false hx1]
    refine WL_nil ?_
    refine W_cond_f rfl ?_
    refine W_skip ?_
    refine nrm_normal ?_
    refine W_seq ?_
    refine W_seq_reg ?_
    refine WL_move rfl rfl ?_
    refine WL_add rfl rfl rfl ?_
    rw [show w64 ((m : Int) + 1) = ((m + 1 : Nat) : Int) by rw [w64_id (by omega) (by omega)]; omega]
    refine WL_assign rfl rfl ?_
    refine WL_nil ?_
    obtain ⟨b, c, rfl, hc1, hc2, hD0⟩ := hC1.del_open hm
    have hml : (a1.take m).length = m := by rw [List.length_take]; omega
    refine W_norm (fun l w => ∃ kept : List (Int × (List Int)), ∃ g : Nat, l = [(0, .slice (some ⟨b, 0, none⟩) a1.length c), (5, .int .i64 (kept.length : Int))] ∧ 0 < g ∧ kept.length + g = a1.length ∧ kept = rr ∧ Ctx Fs.flatten w0 w [Item.del b c kept g ([] : List (Int × (List Int)))]) ?_ ?_
    · refine W_block ?_
      refine W.sub (l' := [(0, .slice (some ⟨b, 0, none⟩) a1.length c), (1, (.func (.func 120) #[] #[(ptr pb1 0), (ptr pb2 0)])), (5, .int .i64 (m : Int)), (6, .int .i64 ((m + 1 : Nat) : Int))]) ?_ ⟨rfl, rfl, rfl, rfl, trivial⟩
      refine W_loop (fun k l w => ∃ kept : List (Int × (List Int)), ∃ g : Nat, ∃ rest : List (Int × (List Int)), l = [(0, .slice (some ⟨b, 0, none⟩) a1.length c), (1, (.func (.func 120) #[] #[(ptr pb1 0), (ptr pb2 0)])), (5, .int .i64 (kept.length : Int)), (6, .int .i64 ((kept.length + g : Nat) : Int))] ∧ 0 < g ∧ kept.length + g + rest.length = a1.length ∧ dfl (fun e => M.matches_c1 e ax1 ax2) kept rest = some rr ∧ k = rest.length ∧ Ctx Fs.flatten w0 w [Item.del b c kept g rest]) (a1.drop (m + 1)).length ⟨a1.take m, 1, a1.drop (m + 1), by rw [hml], by omega, by rw [hml, List.length_drop]; omega, hF, rfl, hD0⟩ ?_
      clear hF hD0
      rintro k1 _ w2 ⟨kept, g, rest, rfl, hg, hlen, hL, hk, hD⟩
      refine W_seq ?_
      refine W_seq_reg ?_
      refine WL_move rfl rfl ?_
      refine WL_move rfl rfl ?_
      refine WL_len_raw Try.underlying36 rfl rfl ?_
      refine WL_lss rfl rfl rfl ?_
      cases rest with
      | nil =>
        have hq := Option.some.inj hL
        simp only [List.length_nil, Nat.add_zero] at hlen
        rw [decide_eq_false (show ¬ ((kept.length + g : Nat) : Int) < (a1.length : Int) by omega)]
        refine WL_nil ?_
        refine W_cond_f rfl ?_
        refine W_exit ?_
        refine nrm_exit ?_
        refine nrm_exit ?_
        refine blk_exit ?_
        refine nrm_sub (l' := [(0, .slice (some ⟨b, 0, none⟩) a1.length c), (5, .int .i64 (kept.length : Int))]) ⟨rfl, rfl, trivial⟩ ?_
        exact ⟨kept, g, rfl, hg, hlen, hq, hD⟩
      | cons x rest =>
        simp only [List.length_cons] at hlen hk
        rw [decide_eq_true (show ((kept.length + g : Nat) : Int) < (a1.length : Int) by omega)]
        refine WL_nil ?_
        refine W_cond_t rfl ?_
        refine W_skip ?_
        refine nrm_normal ?_
        refine W_seq ?_
        refine W_block ?_
        refine W_seq_reg ?_
        refine WL_move rfl rfl ?_
        refine WL_move rfl rfl ?_
        refine WL_index_raw Try.underlying36 ty77 (show kept.length + g < a1.length by omega) rfl rfl rfl ?_
        obtain ⟨cs, hcs, hD1⟩ := hD.del_head
        obtain ⟨hro, row, T, hh, hrow⟩ := hD1.delh_row
        refine WL_load_raw ty77 hh (by rw [Nat.zero_add]; exact hrow) hcs rfl rfl ?_
        obtain ⟨e1, hce, _⟩ := ro_st77 hro
        obtain rfl := cells_of_agg (cs' := [(.int .i64 x.1), e1]) hce
        rw [show mkv (Rep.agg (Int × (List Int))) [(.int .i64 x.1), e1] = (.agg #[(.int .i64 x.1), e1]) from rfl]
        refine WL_alloc hD1 zero77 rfl rfl (fun b7 w3 hD2 hB2 => ?_)
        have phr := hD2.delh_ro (α := (Int × (List Int))) 1 rfl
        obtain ⟨pf0, phe, pg0⟩ := ro_st77 phr
        replace phe := cells_of_agg (cs := [(.int .i64 x.1), e1]) (cs' := [(.int .i64 x.1), pf0]) phe
        simp only [List.cons.injEq, and_true, true_and] at phe
        obtain rfl := phe
        refine WL_store_box_agg (cs' := [(.int .i64 x.1), e1]) (new := [(.int .i64 x.1), e1]) hD2 0 rfl rfl (by intro v hv; simp only [List.mem_cons, List.not_mem_nil, or_false] at hv; rcases hv with rfl | rfl; exact rfl; exact (ro_one pg0)) rfl Try.sizeOf77 rfl rfl (fun w4 hD3 => ?_)
        try dsimp only [List.set] at hD3
        refine WL_nil ?_
        refine W_seq_reg ?_
        refine WL_move rfl rfl ?_
        refine WL_load_box_agg [(.int .i64 x.1), e1] hD3 0 rfl rfl rfl Try.isAgg77 Try.sizeOf77 rfl rfl ?_
        have qhr := hD3.delh_ro (α := (Int × (List Int))) 1 rfl
        obtain ⟨qf0, qhe, qg0⟩ := ro_st77 qhr
        replace qhe := cells_of_agg (cs := [(.int .i64 x.1), e1]) (cs' := [(.int .i64 x.1), qf0]) qhe
        simp only [List.cons.injEq, and_true, true_and] at qhe
        obtain rfl := qhe
        obtain ⟨q, hq, hL⟩ := bind_some (show (M.matches_c1 x ax1 ax2).bind (fun b => dfl (fun e => M.matches_c1 e ax1 ax2) (if b then kept else kept ++ [x]) rest) = some rr from hL)
        refine WL_callv (cap := [(ptr pb1 0), (ptr pb2 0)]) Try.call120 rfl rfl rfl (c_M_matches_c1 x e1 qg0 pb1 ax1 (g1.now hD3.keep) pb2 ax2 (g2.now hD3.keep) q hq) ?_
        intro _ w5 hv2
        obtain ⟨rfl, hB5⟩ := res_bool hv2
        have hD4 := hD3.grow hB5
        refine WL_not rfl rfl ?_
        refine WL_nil ?_
        refine W_cond rfl (fun hq1 => ?_) (fun hq1 => ?_)
        · have hqf : q = false := by simpa using hq1
          rw [hqf] at hL
          rw [if_neg (by simp)] at hL
          refine W_seq_reg ?_
          refine WL_move rfl rfl ?_
          refine WL_move rfl rfl ?_
          refine WL_load_box_agg [(.int .i64 x.1), e1] hD4 0 rfl rfl rfl Try.isAgg77 Try.sizeOf77 rfl rfl ?_
          refine WL_index_raw Try.underlying36 ty77 (show kept.length < a1.length by omega) rfl rfl rfl ?_
          refine WL_store_del hD4.swap hg ty77 rfl rfl rfl (fun w6 hD5 => ?_)
          refine WL_nil ?_
          refine W_reg ?_
          refine WL_move rfl rfl ?_
          refine WL_add rfl rfl rfl ?_
          rw [show w64 ((kept.length : Int) + 1) = ((kept ++ [x]).length : Int) by rw [w64_id (by omega) (by omega), List.length_append]; rfl]
          refine WL_assign rfl rfl ?_
          refine WL_nil ?_
          refine blk_normal ?_
          refine nrm_normal ?_
          refine W_reg ?_
          refine WL_move rfl rfl ?_
          refine WL_add rfl rfl rfl ?_
          rw [show w64 (((kept.length + g : Nat) : Int) + 1) = (((kept ++ [x]).length + g : Nat) : Int) by rw [w64_id (by omega) (by omega), List.length_append]; simp only [List.length_cons, List.length_nil]; omega]
          refine WL_assign rfl rfl ?_
          refine WL_nil ?_
          refine nrm_sub (l' := [(0, .slice (some ⟨b, 0, none⟩) a1.length c), (1, (.func (.func 120) #[] #[(ptr pb1 0), (ptr pb2 0)])), (5, .int .i64 ((kept ++ [x]).length : Int)), (6, .int .i64 (((kept ++ [x]).length + g : Nat) : Int))]) ⟨rfl, rfl, rfl, rfl, trivial⟩ ?_
          exact ⟨rest.length, by omega, kept ++ [x], g, rest, rfl, hg, by rw [List.length_append]; simp only [List.length_cons, List.length_nil]; omega, hL, rfl, hD5.headN 1⟩
        · have hqt : q = true := by simpa using hq1
          rw [hqt] at hL
          rw [if_pos rfl] at hL
          refine W_skip ?_
          refine blk_normal ?_
          refine nrm_normal ?_
          refine W_reg ?_
          refine WL_move rfl rfl ?_
          refine WL_add rfl rfl rfl ?_
          rw [show w64 (((kept.length + g : Nat) : Int) + 1) = ((kept.length + (g + 1) : Nat) : Int) by rw [w64_id (by omega) (by omega)]; omega]
          refine WL_assign rfl rfl ?_
          refine WL_nil ?_
          refine nrm_sub (l' := [(0, .slice (some ⟨b, 0, none⟩) a1.length c), (1, (.func (.func 120) #[] #[(ptr pb1 0), (ptr pb2 0)])), (5, .int .i64 (kept.length : Int)), (6, .int .i64 ((kept.length + (g + 1) : Nat) : Int))]) ⟨rfl, rfl, rfl, rfl, trivial⟩ ?_
          have hD5 := (hD4.swap.headN 1).del_skip
          exact ⟨rest.length, by omega, kept, g + 1, rest, rfl, by omega, by omega, hL, rfl, hD5⟩
    · rintro l2 _ w8 hs2 ⟨kept, g, rfl, hg, hlen, rfl, hD⟩
      refine nrm_sub' hs2 ?_
      clear hs2
      refine W_seq_reg ?_
      refine WL_move rfl rfl ?_
      refine WL_move rfl rfl ?_
      refine WL_sl_l Try.underlying36 ty77 (show kept.length < c by omega) (show kept.length ≤ a1.length by omega) hc1 rfl rfl rfl ?_
      refine WL_clear_del hD Try.underlying36 ty77 zc77 (by intro v hv; simp only [List.mem_cons, List.not_mem_nil, or_false] at hv; rcases hv with rfl | rfl <;> rfl) hlen.symm rfl hg (fun w9 hD9 => ?_)
      refine WL_nil ?_
      refine W_seq_reg ?_
      refine WL_move rfl rfl ?_
      refine WL_move rfl rfl ?_
      refine WL_sl_h Try.underlying36 ty77 (hi := kept.length) (by omega) (by omega) rfl rfl rfl ?_
      refine WL_assign rfl rfl ?_
      refine WL_nil ?_
      refine W_ret ?_
      refine fn_ret1 rfl rfl ?_
      exact ⟨_, rfl, _, rfl, hD9⟩

theorem c_M_matches {w0 : World} (a1 : (List (Int × (List Int) × Int × Int × Int))) (u1 : Value) (g1 : RO [] w0 u1 a1) (a2 : (List (Int × (List Int)))) (u2 : Value) (g2 : RO [] w0 u2 a2) (a3 : (Int × (List Int))) (u3 : Value) (g3 : RO [] w0 u3 a3.2) (rr : (List (Int × (List Int)))) (hF : M.matches a1 a2 a3 = some rr) :
    Calls Try.prog 74 [u1, u2, (.agg #[(.int .i64 a3.1), u3])].toArray w0 fun e w' => ∃ v, e = .returned v ∧ Res w0 rr v w' := by
  refine calls_of_W Try.func74 rfl rfl ?_
  have hC0 := Ctx.start w0
  unfold M.matches at hF
  refine W_seq_reg ?_
  refine WL_box (cs := [(.int .i64 a3.1), u3]) hC0 rfl rfl rfl (fun b1 w1 hC1 hB1 => ?_)
  refine WL_assign rfl rfl ?_
  refine WL_nil ?_
  refine W_seq_reg ?_
  refine WL_move rfl rfl ?_
  refine WL_field Try.underlying35 rfl rfl (fun w => ⟨_, Try.sizeOf3 w⟩) rfl rfl ?_
  refine WL_load_box hC1 0 rfl rfl Try.isAgg3 rfl rfl ?_
  obtain ⟨x1, hx1, hF⟩ := bind_some hF
  refine WL_index Try.underlying33 ty110 g1 hx1 rfl rfl rfl (fun b2 o1 h1 => ?_)
  refine WL_load ty110 h1 hC1.keep rfl rfl (fun v1 h2 => ?_)
  obtain ⟨v2, rfl, h3⟩ := ro_st110 h2
  refine WL_alloc hC1 zero110 rfl rfl (fun b3 w2 hC2 hB2 => ?_)
  refine WL_store_box_agg (cs' := [(.int .i64 x1.1), v2, (.int .i64 x1.2.2.1), (.int .i64 x1.2.2.2.1), (.int .i64 x1.2.2.2.2)]) (new := [(.int .i64 x1.1), v2, (.int .i64 x1.2.2.1), (.int .i64 x1.2.2.2.1), (.int .i64 x1.2.2.2.2)]) hC2 0 rfl rfl (by intro v hv; simp only [List.mem_cons, List.not_mem_nil, or_false] at hv; rcases hv with rfl | rfl | rfl | rfl | rfl; exact rfl; exact (ro_one h3); exact rfl; exact rfl; exact rfl) rfl Try.sizeOf110 rfl rfl (fun w3 hC3 => ?_)
  try dsimp only [List.set] at hC3
  refine WL_nil ?_
  refine W_seq_reg ?_
  refine WL_move rfl rfl ?_
  obtain ⟨x2, hr1, hF⟩ := bind_some hF
  refine WL_call Try.call119 rfl rfl (c_M_copyFacts a2 u2 (g2.now hC3.keep) x2 hr1) ?_
  rintro v3 w4 ⟨hB3, F1, hv1, hn1, hb1⟩
  have hC4 := hC3.push hB3 (A := Item.own v3 x2) hv1 hn1 hb1
  refine WL_makeFunc rfl rfl ?_
  obtain ⟨x3, hr2, hF⟩ := bind_some hF
  obtain ⟨Fs1, hH1, hn2, hF1, hO1, hX1, hb2⟩ := Ctx.lend3 (As := [Item.box b3 [(.int .i64 x1.1), v2, (.int .i64 x1.2.2.1), (.int .i64 x1.2.2.2.1), (.int .i64 x1.2.2.2.2)], Item.box b1 [(.int .i64 a3.1), u3]]) [Item.own v3 (x2 : (List (Int × (List Int))))] hC4
  refine WL_call Try.call107 rfl rfl (c_Slices_DeleteFunc_Limpl_Fact_impl_Fact_M_matches_c1 x2 v3 b3 (x1.1, x1.2.1, x1.2.2.1, x1.2.2.2.1, x1.2.2.2.2) (roat_box (hX1 0 _ _ rfl) (repd_pair repd_int (repd_pair (repd_slice (RO.lent h3 hC4.keep hF1)) (repd_pair repd_int (repd_pair repd_int repd_int))))) b1 (a3.1, a3.2) (roat_box (hX1 1 _ _ rfl) (repd_pair repd_int (repd_slice (RO.lent g3 hC4.keep hF1)))) hH1 hn2 x3 hr2) ?_
  rintro v4 w5 ⟨_, rfl, hq1⟩
  have hC6 : Ctx [] w0 w5 [Item.own v4 (x3 : (List (Int × (List Int)))), Item.box b3 [(.int .i64 x1.1), v2, (.int .i64 x1.2.2.1), (.int .i64 x1.2.2.2.1), (.int .i64 x1.2.2.2.2)], Item.box b1 [(.int .i64 a3.1), u3]] := hb2 _ _ hq1
  refine WL_assign rfl rfl ?_
  refine WL_nil ?_
  refine W_ret ?_
  have hq2 := Option.some.inj hF
  subst hq2
  refine fn_ret1 rfl rfl ?_
  exact ⟨_, rfl, own_res hC6 0 rfl⟩

end Go.Gx.Px
