/- The contracts of the Go functions against the pure functions, printed by program. Conditions: each says them. -/
import Derived.Test.YtnjjpmilcajmkaaC3
set_option linter.unusedVariables false
set_option linter.unusedSimpArgs false
set_option maxRecDepth 100000
set_option maxHeartbeats 4000000
namespace Go.Gx.Px
open Go.Proofs Go.RowKit

theorem c_Q_FnExactFinishCall {w0 : World} (a1 : ((List Int) × Int × Int)) (u1 : Value) (g1 : RO [] w0 u1 a1.1) (a2 : (Int × Int × Int × Bool)) (a3 : (List Int)) (u2 : Value) (g2 : RO [] w0 u2 a3) (rr : Bool) (hF : Q.FnExactFinishCall a1 a2 a3 = some rr) :
    Calls Try.prog 6 [(.agg #[u1, (.int .i64 a1.2.1), (.int .i64 a1.2.2)]), (.agg #[(.int .i64 a2.1), (.int .i64 a2.2.1), (.int .i64 a2.2.2.1), (.bool a2.2.2.2)]), u2].toArray w0 fun e w' => ∃ v, e = .returned v ∧ Res w0 rr v w' := by
  refine calls_of_W Try.func6 rfl rfl ?_
  have hC0 := Ctx.start w0
  unfold Q.FnExactFinishCall at hF
  refine W_seq_reg ?_
  refine WL_box (cs := [u1, (.int .i64 a1.2.1), (.int .i64 a1.2.2)]) hC0 rfl rfl rfl (fun b1 w1 hC1 hB1 => ?_)
  refine WL_box (cs := [(.int .i64 a2.1), (.int .i64 a2.2.1), (.int .i64 a2.2.2.1), (.bool a2.2.2.2)]) hC1 rfl rfl rfl (fun b2 w2 hC2 hB2 => ?_)
  refine WL_assign rfl rfl ?_
  refine WL_nil ?_
  refine W_seq ?_
  refine W_seq_reg ?_
  refine WL_move rfl rfl ?_
  refine WL_len Try.underlying22 g2 rfl rfl ?_
  refine WL_gtr rfl rfl rfl ?_
  refine WL_nil ?_
  refine W_cond rfl (fun hc1 => ?_) (fun hc1 => ?_)
  · replace hF := ite_t hF hc1
    refine W_seq_reg ?_
    refine WL_assign rfl rfl ?_
    refine WL_nil ?_
    refine W_ret ?_
    refine nrm_ret ?_
    have hq1 := Option.some.inj hF
    subst hq1
    refine fn_ret1 rfl rfl ?_
    exact ⟨_, rfl, bool_res hC2 _⟩
  · replace hF := ite_f hF hc1
    refine W_skip ?_
    refine nrm_normal ?_
    refine W_seq_reg ?_
    refine WL_assign rfl rfl ?_
    refine WL_nil ?_
    refine W_seq_reg ?_
    refine WL_load_box_agg [u1, (.int .i64 a1.2.1), (.int .i64 a1.2.2)] hC2 1 rfl rfl rfl Try.isAgg24 Try.sizeOf24 rfl rfl ?_
    refine WL_move rfl rfl ?_
    obtain ⟨x1, hr1, hF⟩ := bind_some hF
    refine WL_call Try.call15 rfl rfl (c_Q_szLedger (a1.1, a1.2.1, a1.2.2) u1 (g1.now hC2.keep) 1048576 x1 hr1) ?_
    intro _ w3 hv1
    obtain ⟨rfl, hB3⟩ := res_int hv1
    have hC3 := hC2.grow hB3
    refine WL_assign rfl rfl ?_
    refine WL_nil ?_
    refine W_seq ?_
    refine W_seq_reg ?_
    refine WL_move rfl rfl ?_
    refine WL_lss rfl rfl rfl ?_
    refine WL_nil ?_
    refine W_cond rfl (fun hc2 => ?_) (fun hc2 => ?_)
    · replace hF := ite_t hF hc2
      refine W_seq_reg ?_
      refine WL_assign rfl rfl ?_
      refine WL_nil ?_
      refine W_ret ?_
      refine nrm_ret ?_
      have hq2 := Option.some.inj hF
      subst hq2
      refine fn_ret1 rfl rfl ?_
      exact ⟨_, rfl, bool_res hC3 _⟩
    · replace hF := ite_f hF hc2
      refine W_skip ?_
      refine nrm_normal ?_
      obtain ⟨r1, hr2, hF⟩ := bind_some hF
      refine W_cut (fun l w => ∃ b3 : Nat, ∃ v1 : Value, ∃ x2 : (List Int), ∃ x3 : Int, ∃ x4 : Int, ∃ b4 : Nat, ∃ x5 : Int, ∃ x6 : Int, ∃ x7 : Int, ∃ x8 : Bool, (x2, x3, x4, x5, x6, x7, x8) = r1 ∧ l = [(2, u2), (3, (ptr b1 0)), (4, (ptr b2 0)), (8, (ptr b3 0)), (9, (ptr b4 0))] ∧ Ctx [] w0 w [Item.box b4 [(.int .i64 x5), (.int .i64 x6), (.int .i64 x7), (.bool x8)], Item.box b3 [v1, (.int .i64 x3), (.int .i64 x4)], Item.own v1 (x2 : (List Int)), Item.box b2 [(.int .i64 a2.1), (.int .i64 a2.2.1), (.int .i64 a2.2.2.1), (.bool a2.2.2.2)], Item.box b1 [u1, (.int .i64 a1.2.1), (.int .i64 a1.2.2)]]) ?_ ?_
      · refine W_drawn 14 rfl hmix (fun w5 hB5 => ?_)
        have hC5 := hC3.grow hB5
        refine WA_take 4 rfl (by kernel_rfl) (by kernel_rfl) (by kernel_rfl) rfl (fl_move rfl) ?_
        refine WL_move rfl rfl ?_
        refine WL_nil ?_
        obtain ⟨x9, hr3, hr2⟩ := bind_some hr2
        obtain ⟨x10, hr4, hr2⟩ := bind_some hr2
        obtain ⟨x11, hr5, hr2⟩ := bind_some hr2
        obtain ⟨x12, hr6, hr2⟩ := bind_some hr2
        refine WA.sub (l' := [(0, (.agg #[u1, (.int .i64 a1.2.1), (.int .i64 a1.2.2)])), (1, (.agg #[(.int .i64 a2.1), (.int .i64 a2.2.1), (.int .i64 a2.2.2.1), (.bool a2.2.2.2)])), (2, u2), (3, (ptr b1 0)), (4, (ptr b2 0)), (6, (.bool false)), (7, (.int .i64 x1)), (19, u2), (20, (.int .i64 (List.length a3 : Int))), (21, (.bool (decide (1048576 < (List.length a3 : Int))))), (22, (.agg #[u1, (.int .i64 a1.2.1), (.int .i64 a1.2.2)])), (23, (.int .i64 1048576)), (24, (.int .i64 x1)), (25, (.int .i64 x1)), (26, (.bool (decide (x1 < 0)))), (32, u2)]) ?_ ⟨rfl, rfl, rfl, rfl, rfl, rfl, rfl, rfl, rfl, rfl, rfl, rfl, rfl, rfl, rfl, rfl, trivial⟩
        refine WA_postsO [⟨0, [], fun vs => PW.val (.agg #[u1, (.int .i64 a1.2.1), (.int .i64 a1.2.2)]), []⟩, ⟨1, [], fun vs => PW.own x9, []⟩, ⟨2, [], fun vs => PW.val (.agg #[(.int .i64 a2.1), (.int .i64 a2.2.1), (.int .i64 a2.2.2.1), (.bool a2.2.2.2)]), []⟩, ⟨3, [], fun vs => PW.val (.agg #[(.int .i64 x10.1), (.int .i64 x10.2.1), (.int .i64 x10.2.2.1), (.bool x10.2.2.2)]), []⟩, ⟨5, [], fun vs => PW.own x11, []⟩, ⟨6, [], fun vs => PW.own2 (x12.1 : ((List Int) × Int × Int)) (x12.2 : (Int × Int × Int × Bool)), []⟩, ⟨7, [34], fun vs => PW.val (vs.getD 0 undef), []⟩, ⟨8, [27], fun vs => PW.comp (vs.getD 0 undef) 0, []⟩, ⟨9, [27], fun vs => PW.comp (vs.getD 0 undef) 1, []⟩, ⟨10, [], fun vs => PW.box [(.slice none 0 0), (.int .i64 0), (.int .i64 0)], []⟩, ⟨11, [], fun vs => PW.box [(.int .i64 0), (.int .i64 0), (.int .i64 0), (.bool false)], []⟩] [[], [0], [], [2], [], [1, 3, 5], [6], [6, 7], [6, 7], [], []] [9] 2 rfl (by kernel_rfl) (by kernel_rfl) ?_ ⟨?_, ?_, trivial⟩
        · refine StepsE_cons rfl ?_ ?_
          · intro w12 hB12
            refine DepsE_nil ?_
            refine ⟨_, rfl, ?_⟩
            refine WL_load_box_agg [u1, (.int .i64 a1.2.1), (.int .i64 a1.2.2)] (hC5.grow hB12) 1 rfl rfl rfl Try.isAgg24 Try.sizeOf24 rfl rfl ?_
            refine WL_nil ?_
            exact FinE_val (Below.refl _ _) rfl rfl ⟨rfl, rfl⟩
          refine StepsE_cons rfl ?_ ?_
          · intro w12 hB12
            refine DepsE_cons rfl rfl rfl ?_
            rintro _ _ ⟨rfl, rfl⟩ _
            refine DepsE_nil ?_
            refine ⟨_, rfl, ?_⟩
            refine WL_call Try.call17 rfl rfl (c_Q_toLedger (a1.1, a1.2.1, a1.2.2) u1 (g1.now (hC5.keep.then hB12)) x9 hr3) ?_
            rintro v2 w6 ⟨hB6, F1, hv2, hn1, hb1⟩
            refine WL_nil ?_
            exact FinE_own hB6 rfl rfl hv2 hn1 hb1 (Val.inh hv2)
          refine StepsE_cons rfl ?_ ?_
          · intro w12 hB12
            refine DepsE_nil ?_
            refine ⟨_, rfl, ?_⟩
            refine WL_load_box_agg [(.int .i64 a2.1), (.int .i64 a2.2.1), (.int .i64 a2.2.2.1), (.bool a2.2.2.2)] (hC5.grow hB12) 0 rfl rfl rfl Try.isAgg34 Try.sizeOf34 rfl rfl ?_
            refine WL_nil ?_
            exact FinE_val (Below.refl _ _) rfl rfl ⟨rfl, rfl⟩
          refine StepsE_cons rfl ?_ ?_
          · intro w12 hB12
            refine DepsE_cons rfl rfl rfl ?_
            rintro _ _ ⟨rfl, rfl⟩ _
            refine DepsE_nil ?_
            refine ⟨_, rfl, ?_⟩
            refine WL_call Try.call23 rfl rfl (c_Q_toCall (a2.1, a2.2.1, a2.2.2.1, a2.2.2.2) x10 hr4) ?_
            rintro v4 w7 ⟨hB7, F2, hv3, hn2, hb2⟩
            obtain rfl := ro_st35 (D := []) ⟨F2, Val.weak hv3, by simp⟩
            refine WL_nil ?_
            exact FinE_val hB7 rfl rfl ⟨rfl, rfl⟩
          refine StepsE_cons rfl ?_ ?_
          · intro w12 hB12
            refine DepsE_nil ?_
            refine ⟨_, rfl, ?_⟩
            refine WL_call Try.call37 rfl rfl (c_Q_toIntS a3 u2 (g2.now (hC5.keep.then hB12)) x11 hr5) ?_
            rintro v5 w8 ⟨hB8, F3, hv4, hn3, hb3⟩
            refine WL_nil ?_
            exact FinE_own hB8 rfl rfl hv4 hn3 hb3 (Val.inh hv4)
          refine StepsE_cons rfl ?_ ?_
          · intro w12 hB12
            refine DepsE_cons rfl rfl rfl ?_
            intro v2 F1 hv2 _
            obtain ⟨v3, rfl, h1⟩ := ro_st26 (ro_of_own hv2)
            refine DepsE_cons rfl rfl rfl ?_
            rintro _ _ ⟨rfl, rfl⟩ _
            refine DepsE_cons rfl rfl rfl ?_
            intro v5 F3 hv4 _
            refine DepsE_nil ?_
            refine ⟨_, rfl, ?_⟩
            refine WL_call Try.call36 rfl rfl (c_S_FinishCall x9 v3 (h1.now (Keep.refl _ _)) x10 x11 v5 (ro_of_own hv4) x12 hr6) ?_
            rintro _ w9 ⟨hB9, v6, v7, F4, F5, rfl, hv5, hv6, hn4, hb4⟩
            refine WL_nil ?_
            exact FinE_own (F := F4 ++ F5) hB9 rfl rfl ⟨_, _, _, _, rfl, rfl, hv5, hv6⟩ (by simpa using hn4) (fun b h => hb4 b (by simpa using h)) (fun b h => by simp only [List.mem_append] at h; rcases h with h | h <;> first | exact Val.inh hv5 b h | exact Val.inh hv6 b h)
          refine StepsE_cons rfl ?_ ?_
          · intro w12 hB12
            refine DepsE_cons rfl rfl rfl ?_
            rintro _ _ ⟨v6, v7, F4, F5, rfl, rfl, hv5, hv6⟩ _
            obtain ⟨v8, rfl, h2⟩ := ro_st26 (ro_of_own hv5)
            obtain rfl := ro_st35 (ro_of_own hv6)
            refine DepsE_nil ?_
            refine ⟨_, rfl, ?_⟩
            refine WL_move rfl rfl ?_
            refine WL_nil ?_
            exact FinE_val (Below.refl _ _) rfl rfl ⟨rfl, rfl⟩
          refine StepsE_cons rfl ?_ ?_
          · intro w12 hB12
            refine DepsE_cons rfl rfl rfl ?_
            rintro _ _ ⟨v6, v7, F4, F5, rfl, rfl, hv5, hv6⟩ _
            obtain ⟨v8, rfl, h2⟩ := ro_st26 (ro_of_own hv5)
            obtain rfl := ro_st35 (ro_of_own hv6)
            refine DepsE_cons rfl rfl rfl ?_
            rintro _ _ ⟨rfl, rfl⟩ _
            refine DepsE_nil ?_
            refine ⟨_, rfl, ?_⟩
            refine WL_extract rfl rfl rfl ?_
            refine WL_nil ?_
            exact FinE_val (Below.refl _ _) rfl rfl ⟨⟨_, rfl, rfl⟩, rfl⟩
          refine StepsE_cons rfl ?_ ?_
          · intro w12 hB12
            refine DepsE_cons rfl rfl rfl ?_
            rintro _ _ ⟨v6, v7, F4, F5, rfl, rfl, hv5, hv6⟩ _
            obtain ⟨v8, rfl, h2⟩ := ro_st26 (ro_of_own hv5)
            obtain rfl := ro_st35 (ro_of_own hv6)
            refine DepsE_cons rfl rfl rfl ?_
            rintro _ _ ⟨rfl, rfl⟩ _
            refine DepsE_nil ?_
            refine ⟨_, rfl, ?_⟩
            refine WL_extract rfl rfl rfl ?_
            refine WL_nil ?_
            exact FinE_val (Below.refl _ _) rfl rfl ⟨⟨_, rfl, rfl⟩, rfl⟩
          refine StepsE_cons rfl ?_ ?_
          · intro w12 hB12
            refine DepsE_nil ?_
            refine ⟨_, rfl, ?_⟩
            refine WL_alloc (Ctx.start _) zero26 rfl rfl (fun b5 w10 hC6 hB10 => ?_)
            refine WL_nil ?_
            exact FinE_ctx hC6 rfl rfl (fun F h => ⟨b5, rfl, h⟩)
          refine StepsE_cons rfl ?_ ?_
          · intro w12 hB12
            refine DepsE_nil ?_
            refine ⟨_, rfl, ?_⟩
            refine WL_alloc (Ctx.start _) zero35 rfl rfl (fun b6 w11 hC7 hB11 => ?_)
            refine WL_nil ?_
            exact FinE_ctx hC7 rfl rfl (fun F h => ⟨b6, rfl, h⟩)
          exact StepsE_nil
        · intro g' hg'
          obtain rfl : g' = 2 := hg'
          intro w13 hB13
          refine AllE_cons rfl rfl rfl ?_
          rintro _ _ ⟨rfl, rfl⟩
          refine AllE_cons rfl rfl rfl ?_
          intro v2 F1 hv2
          refine AllE_cons rfl rfl rfl ?_
          rintro _ _ ⟨rfl, rfl⟩
          refine AllE_cons rfl rfl rfl ?_
          rintro _ _ ⟨rfl, rfl⟩
          refine AllE_cons rfl rfl rfl ?_
          intro v5 F3 hv4
          refine AllE_cons rfl rfl rfl ?_
          rintro _ _ ⟨v6, v7, F4, F5, rfl, rfl, hv5, hv6⟩
          refine AllE_cons rfl rfl rfl ?_
          rintro _ _ ⟨rfl, rfl⟩
          refine AllE_cons rfl rfl rfl ?_
          rintro _ _ ⟨⟨_, hx1, hx2⟩, rfl⟩
          obtain rfl := Value.tuple.inj hx1
          obtain rfl := Option.some.inj (show (some v6 : Option Value) = some _ from hx2)
          refine AllE_cons rfl rfl rfl ?_
          rintro _ _ ⟨⟨_, hx3, hx4⟩, rfl⟩
          obtain rfl := Value.tuple.inj hx3
          obtain rfl := Option.some.inj (show (some v7 : Option Value) = some _ from hx4)
          refine AllE_cons rfl rfl rfl ?_
          rintro _ F6 ⟨b5, rfl, hv7⟩
          refine AllE_cons rfl rfl rfl ?_
          rintro _ F7 ⟨b6, rfl, hv8⟩
          refine AllE_nil ?_
          intro hn5 hb5
          have hC8 := hC5.pushL hB13 (Bs := [Item.box b6 [(.int .i64 0), (.int .i64 0), (.int .i64 0), (.bool false)], Item.box b5 [(.slice none 0 0), (.int .i64 0), (.int .i64 0)], Item.own v6 (x12.1 : ((List Int) × Int × Int)), Item.own v7 (x12.2 : (Int × Int × Int × Bool)), Item.own v5 (x11 : (List Int)), Item.own v2 (x9 : ((List Int) × Int × Int))]) (Fs := [F7, F6, F4, F5, F3, F1]) ⟨F7, _, rfl, hv8, F6, _, rfl, hv7, F4, _, rfl, hv5, F5, _, rfl, hv6, F3, _, rfl, hv4, F1, _, rfl, hv2, rfl⟩ (by simpa using hn5) (fun b h => (hb5 b (by simpa using h)).1)
          have hC9 : Ctx [] w0 _ [Item.own v2 (x9 : ((List Int) × Int × Int)), Item.box b6 [(.int .i64 0), (.int .i64 0), (.int .i64 0), (.bool false)], Item.box b5 [(.slice none 0 0), (.int .i64 0), (.int .i64 0)], Item.own v6 (x12.1 : ((List Int) × Int × Int)), Item.own v7 (x12.2 : (Int × Int × Int × Bool)), Item.own v5 (x11 : (List Int)), Item.box b2 [(.int .i64 a2.1), (.int .i64 a2.2.1), (.int .i64 a2.2.2.1), (.bool a2.2.2.2)], Item.box b1 [u1, (.int .i64 a1.2.1), (.int .i64 a1.2.2)]] := hC8.front 5 rfl
          obtain ⟨v9, rfl, hC10⟩ := st26_own hC9
          have hC11 : Ctx [] w0 _ [Item.own v6 (x12.1 : ((List Int) × Int × Int)), Item.own v9 (x9.1 : (List Int)), Item.box b6 [(.int .i64 0), (.int .i64 0), (.int .i64 0), (.bool false)], Item.box b5 [(.slice none 0 0), (.int .i64 0), (.int .i64 0)], Item.own v7 (x12.2 : (Int × Int × Int × Bool)), Item.own v5 (x11 : (List Int)), Item.box b2 [(.int .i64 a2.1), (.int .i64 a2.2.1), (.int .i64 a2.2.2.1), (.bool a2.2.2.2)], Item.box b1 [u1, (.int .i64 a1.2.1), (.int .i64 a1.2.2)]] := hC10.front 3 rfl
          obtain ⟨v10, rfl, hC12⟩ := st26_own hC11
          have hC13 : Ctx [] w0 _ [Item.own v7 (x12.2 : (Int × Int × Int × Bool)), Item.own v10 (x12.1.1 : (List Int)), Item.own v9 (x9.1 : (List Int)), Item.box b6 [(.int .i64 0), (.int .i64 0), (.int .i64 0), (.bool false)], Item.box b5 [(.slice none 0 0), (.int .i64 0), (.int .i64 0)], Item.own v5 (x11 : (List Int)), Item.box b2 [(.int .i64 a2.1), (.int .i64 a2.2.1), (.int .i64 a2.2.2.1), (.bool a2.2.2.2)], Item.box b1 [u1, (.int .i64 a1.2.1), (.int .i64 a1.2.2)]] := hC12.front 4 rfl
          obtain ⟨rfl, hC14⟩ := st35_own hC13
          refine WA_one 12 (by kernel_rfl) rfl ?_
          refine WL_store_box_agg (cs' := [v10, (.int .i64 x12.1.2.1), (.int .i64 x12.1.2.2)]) (new := [v10, (.int .i64 x12.1.2.1), (.int .i64 x12.1.2.2)]) hC14 3 rfl rfl (by intro v hv; simp only [List.mem_cons, List.not_mem_nil, or_false] at hv; rcases hv with rfl | rfl | rfl; exact (ro_one (hC14.ro 0 rfl)); exact rfl; exact rfl) rfl Try.sizeOf26 rfl rfl (fun w14 hC15 => ?_)
          try dsimp only [List.set] at hC15
          refine WL_nil ?_
          refine WA_one 13 (by kernel_rfl) rfl ?_
          refine WL_store_box_agg (cs' := [(.int .i64 x12.2.1), (.int .i64 x12.2.2.1), (.int .i64 x12.2.2.2.1), (.bool x12.2.2.2.2)]) (new := [(.int .i64 x12.2.1), (.int .i64 x12.2.2.1), (.int .i64 x12.2.2.2.1), (.bool x12.2.2.2.2)]) hC15 2 rfl rfl (by intro v hv; simp only [List.mem_cons, List.not_mem_nil, or_false] at hv; rcases hv with rfl | rfl | rfl | rfl; exact rfl; exact rfl; exact rfl; exact rfl) rfl Try.sizeOf35 rfl rfl (fun w15 hC16 => ?_)
          try dsimp only [List.set] at hC16
          refine WL_nil ?_
          refine WA_done (by kernel_rfl) ?_
          have hq3 := Option.some.inj hr2
          subst hq3
          have hC17 : Ctx [] w0 _ [Item.box b1 [u1, (.int .i64 a1.2.1), (.int .i64 a1.2.2)], Item.own v10 (x12.1.1 : (List Int)), Item.own v9 (x9.1 : (List Int)), Item.box b6 [(.int .i64 x12.2.1), (.int .i64 x12.2.2.1), (.int .i64 x12.2.2.2.1), (.bool x12.2.2.2.2)], Item.box b5 [v10, (.int .i64 x12.1.2.1), (.int .i64 x12.1.2.2)], Item.own v5 (x11 : (List Int)), Item.box b2 [(.int .i64 a2.1), (.int .i64 a2.2.1), (.int .i64 a2.2.2.1), (.bool a2.2.2.2)]] := hC16.front 6 rfl
          have hC18 : Ctx [] w0 _ [Item.box b2 [(.int .i64 a2.1), (.int .i64 a2.2.1), (.int .i64 a2.2.2.1), (.bool a2.2.2.2)], Item.box b1 [u1, (.int .i64 a1.2.1), (.int .i64 a1.2.2)], Item.own v10 (x12.1.1 : (List Int)), Item.own v9 (x9.1 : (List Int)), Item.box b6 [(.int .i64 x12.2.1), (.int .i64 x12.2.2.1), (.int .i64 x12.2.2.2.1), (.bool x12.2.2.2.2)], Item.box b5 [v10, (.int .i64 x12.1.2.1), (.int .i64 x12.1.2.2)], Item.own v5 (x11 : (List Int))] := hC17.front 6 rfl
          have hC19 : Ctx [] w0 _ [Item.own v10 (x12.1.1 : (List Int)), Item.box b2 [(.int .i64 a2.1), (.int .i64 a2.2.1), (.int .i64 a2.2.2.1), (.bool a2.2.2.2)], Item.box b1 [u1, (.int .i64 a1.2.1), (.int .i64 a1.2.2)], Item.own v9 (x9.1 : (List Int)), Item.box b6 [(.int .i64 x12.2.1), (.int .i64 x12.2.2.1), (.int .i64 x12.2.2.2.1), (.bool x12.2.2.2.2)], Item.box b5 [v10, (.int .i64 x12.1.2.1), (.int .i64 x12.1.2.2)], Item.own v5 (x11 : (List Int))] := hC18.front 2 rfl
          have hC20 : Ctx [] w0 _ [Item.box b5 [v10, (.int .i64 x12.1.2.1), (.int .i64 x12.1.2.2)], Item.own v10 (x12.1.1 : (List Int)), Item.box b2 [(.int .i64 a2.1), (.int .i64 a2.2.1), (.int .i64 a2.2.2.1), (.bool a2.2.2.2)], Item.box b1 [u1, (.int .i64 a1.2.1), (.int .i64 a1.2.2)], Item.own v9 (x9.1 : (List Int)), Item.box b6 [(.int .i64 x12.2.1), (.int .i64 x12.2.2.1), (.int .i64 x12.2.2.2.1), (.bool x12.2.2.2.2)], Item.own v5 (x11 : (List Int))] := hC19.front 5 rfl
          have hC21 : Ctx [] w0 _ [Item.box b6 [(.int .i64 x12.2.1), (.int .i64 x12.2.2.1), (.int .i64 x12.2.2.2.1), (.bool x12.2.2.2.2)], Item.box b5 [v10, (.int .i64 x12.1.2.1), (.int .i64 x12.1.2.2)], Item.own v10 (x12.1.1 : (List Int)), Item.box b2 [(.int .i64 a2.1), (.int .i64 a2.2.1), (.int .i64 a2.2.2.1), (.bool a2.2.2.2)], Item.box b1 [u1, (.int .i64 a1.2.1), (.int .i64 a1.2.2)], Item.own v9 (x9.1 : (List Int)), Item.own v5 (x11 : (List Int))] := hC20.front 5 rfl
          have hC22 : Ctx [] w0 _ [Item.box b6 [(.int .i64 x12.2.1), (.int .i64 x12.2.2.1), (.int .i64 x12.2.2.2.1), (.bool x12.2.2.2.2)], Item.box b5 [v10, (.int .i64 x12.1.2.1), (.int .i64 x12.1.2.2)], Item.own v10 (x12.1.1 : (List Int)), Item.box b2 [(.int .i64 a2.1), (.int .i64 a2.2.1), (.int .i64 a2.2.2.1), (.bool a2.2.2.2)], Item.box b1 [u1, (.int .i64 a1.2.1), (.int .i64 a1.2.2)]] := hC21.headN 5
          refine nrm_sub (l' := [(2, u2), (3, (ptr b1 0)), (4, (ptr b2 0)), (8, (ptr b5 0)), (9, (ptr b6 0))]) ⟨rfl, rfl, rfl, rfl, rfl, trivial⟩ ?_
          exact ⟨b5, v10, x12.1.1, x12.1.2.1, x12.1.2.2, b6, x12.2.1, x12.2.2.1, x12.2.2.2.1, x12.2.2.2.2, rfl, rfl, hC22⟩
        · intro g' hg'
          obtain rfl : g' = 3 := hg'
          intro w13 hB13
          refine AllE_cons rfl rfl rfl ?_
          rintro _ _ ⟨rfl, rfl⟩
          refine AllE_cons rfl rfl rfl ?_
          intro v2 F1 hv2
          refine AllE_cons rfl rfl rfl ?_
          rintro _ _ ⟨rfl, rfl⟩
          refine AllE_cons rfl rfl rfl ?_
          rintro _ _ ⟨rfl, rfl⟩
          refine AllE_cons rfl rfl rfl ?_
          intro v5 F3 hv4
          refine AllE_cons rfl rfl rfl ?_
          rintro _ _ ⟨v6, v7, F4, F5, rfl, rfl, hv5, hv6⟩
          refine AllE_cons rfl rfl rfl ?_
          rintro _ _ ⟨rfl, rfl⟩
          refine AllE_cons rfl rfl rfl ?_
          rintro _ _ ⟨⟨_, hx1, hx2⟩, rfl⟩
          obtain rfl := Value.tuple.inj hx1
          obtain rfl := Option.some.inj (show (some v6 : Option Value) = some _ from hx2)
          refine AllE_cons rfl rfl rfl ?_
          rintro _ F6 ⟨b5, rfl, hv7⟩
          refine AllE_cons rfl rfl rfl ?_
          rintro _ F7 ⟨b6, rfl, hv8⟩
          refine AllE_nil ?_
          intro hn5 hb5
          have hC8 := hC5.pushL hB13 (Bs := [Item.box b6 [(.int .i64 0), (.int .i64 0), (.int .i64 0), (.bool false)], Item.box b5 [(.slice none 0 0), (.int .i64 0), (.int .i64 0)], Item.own v6 (x12.1 : ((List Int) × Int × Int)), Item.own v7 (x12.2 : (Int × Int × Int × Bool)), Item.own v5 (x11 : (List Int)), Item.own v2 (x9 : ((List Int) × Int × Int))]) (Fs := [F7, F6, F4, F5, F3, F1]) ⟨F7, _, rfl, hv8, F6, _, rfl, hv7, F4, _, rfl, hv5, F5, _, rfl, hv6, F3, _, rfl, hv4, F1, _, rfl, hv2, rfl⟩ (by simpa using hn5) (fun b h => (hb5 b (by simpa using h)).1)
          have hC9 : Ctx [] w0 _ [Item.own v2 (x9 : ((List Int) × Int × Int)), Item.box b6 [(.int .i64 0), (.int .i64 0), (.int .i64 0), (.bool false)], Item.box b5 [(.slice none 0 0), (.int .i64 0), (.int .i64 0)], Item.own v6 (x12.1 : ((List Int) × Int × Int)), Item.own v7 (x12.2 : (Int × Int × Int × Bool)), Item.own v5 (x11 : (List Int)), Item.box b2 [(.int .i64 a2.1), (.int .i64 a2.2.1), (.int .i64 a2.2.2.1), (.bool a2.2.2.2)], Item.box b1 [u1, (.int .i64 a1.2.1), (.int .i64 a1.2.2)]] := hC8.front 5 rfl
          obtain ⟨v9, rfl, hC10⟩ := st26_own hC9
          have hC11 : Ctx [] w0 _ [Item.own v6 (x12.1 : ((List Int) × Int × Int)), Item.own v9 (x9.1 : (List Int)), Item.box b6 [(.int .i64 0), (.int .i64 0), (.int .i64 0), (.bool false)], Item.box b5 [(.slice none 0 0), (.int .i64 0), (.int .i64 0)], Item.own v7 (x12.2 : (Int × Int × Int × Bool)), Item.own v5 (x11 : (List Int)), Item.box b2 [(.int .i64 a2.1), (.int .i64 a2.2.1), (.int .i64 a2.2.2.1), (.bool a2.2.2.2)], Item.box b1 [u1, (.int .i64 a1.2.1), (.int .i64 a1.2.2)]] := hC10.front 3 rfl
          obtain ⟨v10, rfl, hC12⟩ := st26_own hC11
          have hC13 : Ctx [] w0 _ [Item.own v7 (x12.2 : (Int × Int × Int × Bool)), Item.own v10 (x12.1.1 : (List Int)), Item.own v9 (x9.1 : (List Int)), Item.box b6 [(.int .i64 0), (.int .i64 0), (.int .i64 0), (.bool false)], Item.box b5 [(.slice none 0 0), (.int .i64 0), (.int .i64 0)], Item.own v5 (x11 : (List Int)), Item.box b2 [(.int .i64 a2.1), (.int .i64 a2.2.1), (.int .i64 a2.2.2.1), (.bool a2.2.2.2)], Item.box b1 [u1, (.int .i64 a1.2.1), (.int .i64 a1.2.2)]] := hC12.front 4 rfl
          obtain ⟨rfl, hC14⟩ := st35_own hC13
          refine WA_take 9 rfl (by kernel_rfl) (by kernel_rfl) (by kernel_rfl) rfl (fl_extract rfl rfl) ?_
          refine WL_extract rfl rfl rfl ?_
          refine WL_nil ?_
          refine WA_one 12 (by kernel_rfl) rfl ?_
          refine WL_store_box_agg (cs' := [v10, (.int .i64 x12.1.2.1), (.int .i64 x12.1.2.2)]) (new := [v10, (.int .i64 x12.1.2.1), (.int .i64 x12.1.2.2)]) hC14 3 rfl rfl (by intro v hv; simp only [List.mem_cons, List.not_mem_nil, or_false] at hv; rcases hv with rfl | rfl | rfl; exact (ro_one (hC14.ro 0 rfl)); exact rfl; exact rfl) rfl Try.sizeOf26 rfl rfl (fun w14 hC15 => ?_)
          try dsimp only [List.set] at hC15
          refine WL_nil ?_
          refine WA_one 13 (by kernel_rfl) rfl ?_
          refine WL_store_box_agg (cs' := [(.int .i64 x12.2.1), (.int .i64 x12.2.2.1), (.int .i64 x12.2.2.2.1), (.bool x12.2.2.2.2)]) (new := [(.int .i64 x12.2.1), (.int .i64 x12.2.2.1), (.int .i64 x12.2.2.2.1), (.bool x12.2.2.2.2)]) hC15 2 rfl rfl (by intro v hv; simp only [List.mem_cons, List.not_mem_nil, or_false] at hv; rcases hv with rfl | rfl | rfl | rfl; exact rfl; exact rfl; exact rfl; exact rfl) rfl Try.sizeOf35 rfl rfl (fun w15 hC16 => ?_)
          try dsimp only [List.set] at hC16
          refine WL_nil ?_
          refine WA_done (by kernel_rfl) ?_
          have hq3 := Option.some.inj hr2
          subst hq3
          have hC17 : Ctx [] w0 _ [Item.box b1 [u1, (.int .i64 a1.2.1), (.int .i64 a1.2.2)], Item.own v10 (x12.1.1 : (List Int)), Item.own v9 (x9.1 : (List Int)), Item.box b6 [(.int .i64 x12.2.1), (.int .i64 x12.2.2.1), (.int .i64 x12.2.2.2.1), (.bool x12.2.2.2.2)], Item.box b5 [v10, (.int .i64 x12.1.2.1), (.int .i64 x12.1.2.2)], Item.own v5 (x11 : (List Int)), Item.box b2 [(.int .i64 a2.1), (.int .i64 a2.2.1), (.int .i64 a2.2.2.1), (.bool a2.2.2.2)]] := hC16.front 6 rfl
          have hC18 : Ctx [] w0 _ [Item.box b2 [(.int .i64 a2.1), (.int .i64 a2.2.1), (.int .i64 a2.2.2.1), (.bool a2.2.2.2)], Item.box b1 [u1, (.int .i64 a1.2.1), (.int .i64 a1.2.2)], Item.own v10 (x12.1.1 : (List Int)), Item.own v9 (x9.1 : (List Int)), Item.box b6 [(.int .i64 x12.2.1), (.int .i64 x12.2.2.1), (.int .i64 x12.2.2.2.1), (.bool x12.2.2.2.2)], Item.box b5 [v10, (.int .i64 x12.1.2.1), (.int .i64 x12.1.2.2)], Item.own v5 (x11 : (List Int))] := hC17.front 6 rfl
          have hC19 : Ctx [] w0 _ [Item.own v10 (x12.1.1 : (List Int)), Item.box b2 [(.int .i64 a2.1), (.int .i64 a2.2.1), (.int .i64 a2.2.2.1), (.bool a2.2.2.2)], Item.box b1 [u1, (.int .i64 a1.2.1), (.int .i64 a1.2.2)], Item.own v9 (x9.1 : (List Int)), Item.box b6 [(.int .i64 x12.2.1), (.int .i64 x12.2.2.1), (.int .i64 x12.2.2.2.1), (.bool x12.2.2.2.2)], Item.box b5 [v10, (.int .i64 x12.1.2.1), (.int .i64 x12.1.2.2)], Item.own v5 (x11 : (List Int))] := hC18.front 2 rfl
          have hC20 : Ctx [] w0 _ [Item.box b5 [v10, (.int .i64 x12.1.2.1), (.int .i64 x12.1.2.2)], Item.own v10 (x12.1.1 : (List Int)), Item.box b2 [(.int .i64 a2.1), (.int .i64 a2.2.1), (.int .i64 a2.2.2.1), (.bool a2.2.2.2)], Item.box b1 [u1, (.int .i64 a1.2.1), (.int .i64 a1.2.2)], Item.own v9 (x9.1 : (List Int)), Item.box b6 [(.int .i64 x12.2.1), (.int .i64 x12.2.2.1), (.int .i64 x12.2.2.2.1), (.bool x12.2.2.2.2)], Item.own v5 (x11 : (List Int))] := hC19.front 5 rfl
          have hC21 : Ctx [] w0 _ [Item.box b6 [(.int .i64 x12.2.1), (.int .i64 x12.2.2.1), (.int .i64 x12.2.2.2.1), (.bool x12.2.2.2.2)], Item.box b5 [v10, (.int .i64 x12.1.2.1), (.int .i64 x12.1.2.2)], Item.own v10 (x12.1.1 : (List Int)), Item.box b2 [(.int .i64 a2.1), (.int .i64 a2.2.1), (.int .i64 a2.2.2.1), (.bool a2.2.2.2)], Item.box b1 [u1, (.int .i64 a1.2.1), (.int .i64 a1.2.2)], Item.own v9 (x9.1 : (List Int)), Item.own v5 (x11 : (List Int))] := hC20.front 5 rfl
          have hC22 : Ctx [] w0 _ [Item.box b6 [(.int .i64 x12.2.1), (.int .i64 x12.2.2.1), (.int .i64 x12.2.2.2.1), (.bool x12.2.2.2.2)], Item.box b5 [v10, (.int .i64 x12.1.2.1), (.int .i64 x12.1.2.2)], Item.own v10 (x12.1.1 : (List Int)), Item.box b2 [(.int .i64 a2.1), (.int .i64 a2.2.1), (.int .i64 a2.2.2.1), (.bool a2.2.2.2)], Item.box b1 [u1, (.int .i64 a1.2.1), (.int .i64 a1.2.2)]] := hC21.headN 5
          refine nrm_sub (l' := [(2, u2), (3, (ptr b1 0)), (4, (ptr b2 0)), (8, (ptr b5 0)), (9, (ptr b6 0))]) ⟨rfl, rfl, rfl, rfl, rfl, trivial⟩ ?_
          exact ⟨b5, v10, x12.1.1, x12.1.2.1, x12.1.2.2, b6, x12.2.1, x12.2.2.1, x12.2.2.2.1, x12.2.2.2.2, rfl, rfl, hC22⟩
      · rintro _ w4 ⟨b3, v1, x2, x3, x4, b4, x5, x6, x7, x8, rfl, rfl, hC4⟩
        try dsimp only at hF
        refine W_seq_reg ?_
        refine WL_load_box_agg [u1, (.int .i64 a1.2.1), (.int .i64 a1.2.2)] hC4 4 rfl rfl rfl Try.isAgg24 Try.sizeOf24 rfl rfl ?_
        obtain ⟨x13, hr7, hF⟩ := bind_some hF
        refine WL_call Try.call17 rfl rfl (c_Q_toLedger (a1.1, a1.2.1, a1.2.2) u1 (g1.now hC4.keep) x13 hr7) ?_
        rintro v11 w16 ⟨hB14, F8, hv9, hn6, hb6⟩
        have hC23 := hC4.push hB14 (A := Item.own v11 x13) hv9 hn6 hb6
        obtain ⟨v12, rfl, hC24⟩ := st26_own hC23
        refine WL_alloc hC24 zero26 rfl rfl (fun b7 w17 hC25 hB15 => ?_)
        refine WL_store_box_agg (cs' := [v12, (.int .i64 x13.2.1), (.int .i64 x13.2.2)]) (new := [v12, (.int .i64 x13.2.1), (.int .i64 x13.2.2)]) hC25 0 rfl rfl (by intro v hv; simp only [List.mem_cons, List.not_mem_nil, or_false] at hv; rcases hv with rfl | rfl | rfl; exact (ro_one (hC25.ro 1 rfl)); exact rfl; exact rfl) rfl Try.sizeOf26 rfl rfl (fun w18 hC26 => ?_)
        try dsimp only [List.set] at hC26
        refine WL_nil ?_
        refine W_seq_reg ?_
        refine WL_move rfl rfl ?_
        obtain ⟨x14, hr8, hF⟩ := bind_some hF
        refine WL_call Try.call37 rfl rfl (c_Q_toIntS a3 u2 (g2.now hC26.keep) x14 hr8) ?_
        rintro v13 w19 ⟨hB16, F9, hv10, hn7, hb7⟩
        have hC27 := hC26.push hB16 (A := Item.own v13 x14) hv10 hn7 hb7
        refine WL_assign rfl rfl ?_
        refine WL_nil ?_
        obtain ⟨r2, hr9, hF⟩ := bind_some hF
        refine W_cut (fun l w => ∃ b8 : Nat, ∃ v14 : Value, ∃ x15 : (List Int), ∃ x16 : Int, ∃ x17 : Int, ∃ b9 : Nat, ∃ x18 : Int, ∃ x19 : Int, ∃ x20 : Int, ∃ x21 : Bool, (x15, x16, x17, x18, x19, x20, x21) = r2 ∧ l = [(2, u2), (3, (ptr b1 0)), (4, (ptr b2 0)), (8, (ptr b3 0)), (9, (ptr b4 0)), (10, (ptr b7 0)), (11, v13), (12, (ptr b8 0)), (13, (ptr b9 0))] ∧ Ctx [] w0 w [Item.box b9 [(.int .i64 x18), (.int .i64 x19), (.int .i64 x20), (.bool x21)], Item.box b8 [v14, (.int .i64 x16), (.int .i64 x17)], Item.own v14 (x15 : (List Int)), Item.own v13 (x14 : (List Int)), Item.box b7 [v12, (.int .i64 x13.2.1), (.int .i64 x13.2.2)], Item.own v12 (x13.1 : (List Int)), Item.box b4 [(.int .i64 x5), (.int .i64 x6), (.int .i64 x7), (.bool x8)], Item.box b3 [v1, (.int .i64 x3), (.int .i64 x4)], Item.own v1 (x2 : (List Int)), Item.box b2 [(.int .i64 a2.1), (.int .i64 a2.2.1), (.int .i64 a2.2.2.1), (.bool a2.2.2.2)], Item.box b1 [u1, (.int .i64 a1.2.1), (.int .i64 a1.2.2)]]) ?_ ?_
        · refine W_drawn 12 rfl hmix (fun w21 hB18 => ?_)
          have hC29 := hC27.grow hB18
          refine WA_take 3 rfl (by kernel_rfl) (by kernel_rfl) (by kernel_rfl) rfl (fl_move rfl) ?_
          refine WL_move rfl rfl ?_
          refine WL_nil ?_
          obtain ⟨x22, hr10, hr9⟩ := bind_some hr9
          obtain ⟨x23, hr11, hr9⟩ := bind_some hr9
          refine WA.sub (l' := [(2, u2), (3, (ptr b1 0)), (4, (ptr b2 0)), (8, (ptr b3 0)), (9, (ptr b4 0)), (10, (ptr b7 0)), (11, v13), (37, (.agg #[u1, (.int .i64 a1.2.1), (.int .i64 a1.2.2)])), (38, (.agg #[v12, (.int .i64 x13.2.1), (.int .i64 x13.2.2)])), (39, u2), (40, v13), (45, v13)]) ?_ ⟨rfl, rfl, rfl, rfl, rfl, rfl, rfl, rfl, rfl, rfl, rfl, rfl, trivial⟩
          refine WA_postsO [⟨0, [], fun vs => PW.val (.agg #[v12, (.int .i64 x13.2.1), (.int .i64 x13.2.2)]), []⟩, ⟨1, [], fun vs => PW.val (.agg #[(.int .i64 a2.1), (.int .i64 a2.2.1), (.int .i64 a2.2.2.1), (.bool a2.2.2.2)]), []⟩, ⟨2, [], fun vs => PW.val (.agg #[(.int .i64 x22.1), (.int .i64 x22.2.1), (.int .i64 x22.2.2.1), (.bool x22.2.2.2)]), []⟩, ⟨4, [], fun vs => PW.own2 (x23.1 : ((List Int) × Int × Int)) (x23.2 : (Int × Int × Int × Bool)), []⟩, ⟨5, [46], fun vs => PW.val (vs.getD 0 undef), []⟩, ⟨6, [41], fun vs => PW.comp (vs.getD 0 undef) 0, []⟩, ⟨7, [41], fun vs => PW.comp (vs.getD 0 undef) 1, []⟩, ⟨8, [], fun vs => PW.box [(.slice none 0 0), (.int .i64 0), (.int .i64 0)], []⟩, ⟨9, [], fun vs => PW.box [(.int .i64 0), (.int .i64 0), (.int .i64 0), (.bool false)], []⟩] [[], [], [1], [0, 2], [4], [4, 5], [4, 5], [], []] [7] 2 rfl (by kernel_rfl) (by kernel_rfl) ?_ ⟨?_, ?_, trivial⟩
          · refine StepsE_cons rfl ?_ ?_
            · intro w26 hB23
              refine DepsE_nil ?_
              refine ⟨_, rfl, ?_⟩
              refine WL_load_box_agg [v12, (.int .i64 x13.2.1), (.int .i64 x13.2.2)] (hC29.grow hB23) 1 rfl rfl rfl Try.isAgg26 Try.sizeOf26 rfl rfl ?_
              refine WL_nil ?_
              exact FinE_val (Below.refl _ _) rfl rfl ⟨rfl, rfl⟩
            refine StepsE_cons rfl ?_ ?_
            · intro w26 hB23
              refine DepsE_nil ?_
              refine ⟨_, rfl, ?_⟩
              refine WL_load_box_agg [(.int .i64 a2.1), (.int .i64 a2.2.1), (.int .i64 a2.2.2.1), (.bool a2.2.2.2)] (hC29.grow hB23) 6 rfl rfl rfl Try.isAgg34 Try.sizeOf34 rfl rfl ?_
              refine WL_nil ?_
              exact FinE_val (Below.refl _ _) rfl rfl ⟨rfl, rfl⟩
            refine StepsE_cons rfl ?_ ?_
            · intro w26 hB23
              refine DepsE_cons rfl rfl rfl ?_
              rintro _ _ ⟨rfl, rfl⟩ _
              refine DepsE_nil ?_
              refine ⟨_, rfl, ?_⟩
              refine WL_call Try.call23 rfl rfl (c_Q_toCall (a2.1, a2.2.1, a2.2.2.1, a2.2.2.2) x22 hr10) ?_
              rintro v15 w22 ⟨hB19, F10, hv11, hn8, hb8⟩
              obtain rfl := ro_st35 (D := []) ⟨F10, Val.weak hv11, by simp⟩
              refine WL_nil ?_
              exact FinE_val hB19 rfl rfl ⟨rfl, rfl⟩
            refine StepsE_cons rfl ?_ ?_
            · intro w26 hB23
              refine DepsE_cons rfl rfl rfl ?_
              rintro _ _ ⟨rfl, rfl⟩ _
              refine DepsE_cons rfl rfl rfl ?_
              rintro _ _ ⟨rfl, rfl⟩ _
              refine DepsE_nil ?_
              refine ⟨_, rfl, ?_⟩
              refine WL_call Try.call38 rfl rfl (c_M_FinishCall (x13.1, x13.2.1, x13.2.2) v12 ((hC29.grow hB23).ro 2 rfl) x22 x14 v13 ((hC29.grow hB23).ro 0 rfl) x23 hr11) ?_
              rintro _ w23 ⟨hB20, v16, v17, F11, F12, rfl, hv12, hv13, hn9, hb9⟩
              refine WL_nil ?_
              exact FinE_own (F := F11 ++ F12) hB20 rfl rfl ⟨_, _, _, _, rfl, rfl, hv12, hv13⟩ (by simpa using hn9) (fun b h => hb9 b (by simpa using h)) (fun b h => by simp only [List.mem_append] at h; rcases h with h | h <;> first | exact Val.inh hv12 b h | exact Val.inh hv13 b h)
            refine StepsE_cons rfl ?_ ?_
            · intro w26 hB23
              refine DepsE_cons rfl rfl rfl ?_
              rintro _ _ ⟨v16, v17, F11, F12, rfl, rfl, hv12, hv13⟩ _
              obtain ⟨v18, rfl, h3⟩ := ro_st26 (ro_of_own hv12)
              obtain rfl := ro_st35 (ro_of_own hv13)
              refine DepsE_nil ?_
              refine ⟨_, rfl, ?_⟩
              refine WL_move rfl rfl ?_
              refine WL_nil ?_
              exact FinE_val (Below.refl _ _) rfl rfl ⟨rfl, rfl⟩
            refine StepsE_cons rfl ?_ ?_
            · intro w26 hB23
              refine DepsE_cons rfl rfl rfl ?_
              rintro _ _ ⟨v16, v17, F11, F12, rfl, rfl, hv12, hv13⟩ _
              obtain ⟨v18, rfl, h3⟩ := ro_st26 (ro_of_own hv12)
              obtain rfl := ro_st35 (ro_of_own hv13)
              refine DepsE_cons rfl rfl rfl ?_
              rintro _ _ ⟨rfl, rfl⟩ _
              refine DepsE_nil ?_
              refine ⟨_, rfl, ?_⟩
              refine WL_extract rfl rfl rfl ?_
              refine WL_nil ?_
              exact FinE_val (Below.refl _ _) rfl rfl ⟨⟨_, rfl, rfl⟩, rfl⟩
            refine StepsE_cons rfl ?_ ?_
            · intro w26 hB23
              refine DepsE_cons rfl rfl rfl ?_
              rintro _ _ ⟨v16, v17, F11, F12, rfl, rfl, hv12, hv13⟩ _
              obtain ⟨v18, rfl, h3⟩ := ro_st26 (ro_of_own hv12)
              obtain rfl := ro_st35 (ro_of_own hv13)
              refine DepsE_cons rfl rfl rfl ?_
              rintro _ _ ⟨rfl, rfl⟩ _
              refine DepsE_nil ?_
              refine ⟨_, rfl, ?_⟩
              refine WL_extract rfl rfl rfl ?_
              refine WL_nil ?_
              exact FinE_val (Below.refl _ _) rfl rfl ⟨⟨_, rfl, rfl⟩, rfl⟩
            refine StepsE_cons rfl ?_ ?_
            · intro w26 hB23
              refine DepsE_nil ?_
              refine ⟨_, rfl, ?_⟩
              refine WL_alloc (Ctx.start _) zero26 rfl rfl (fun b10 w24 hC30 hB21 => ?_)
              refine WL_nil ?_
              exact FinE_ctx hC30 rfl rfl (fun F h => ⟨b10, rfl, h⟩)
            refine StepsE_cons rfl ?_ ?_
            · intro w26 hB23
              refine DepsE_nil ?_
              refine ⟨_, rfl, ?_⟩
              refine WL_alloc (Ctx.start _) zero35 rfl rfl (fun b11 w25 hC31 hB22 => ?_)
              refine WL_nil ?_
              exact FinE_ctx hC31 rfl rfl (fun F h => ⟨b11, rfl, h⟩)
            exact StepsE_nil
          · intro g' hg'
            obtain rfl : g' = 2 := hg'
            intro w27 hB24
            refine AllE_cons rfl rfl rfl ?_
            rintro _ _ ⟨rfl, rfl⟩
            refine AllE_cons rfl rfl rfl ?_
            rintro _ _ ⟨rfl, rfl⟩
            refine AllE_cons rfl rfl rfl ?_
            rintro _ _ ⟨rfl, rfl⟩
            refine AllE_cons rfl rfl rfl ?_
            rintro _ _ ⟨v16, v17, F11, F12, rfl, rfl, hv12, hv13⟩
            refine AllE_cons rfl rfl rfl ?_
            rintro _ _ ⟨rfl, rfl⟩
            refine AllE_cons rfl rfl rfl ?_
            rintro _ _ ⟨⟨_, hx5, hx6⟩, rfl⟩
            obtain rfl := Value.tuple.inj hx5
            obtain rfl := Option.some.inj (show (some v16 : Option Value) = some _ from hx6)
            refine AllE_cons rfl rfl rfl ?_
            rintro _ _ ⟨⟨_, hx7, hx8⟩, rfl⟩
            obtain rfl := Value.tuple.inj hx7
            obtain rfl := Option.some.inj (show (some v17 : Option Value) = some _ from hx8)
            refine AllE_cons rfl rfl rfl ?_
            rintro _ F13 ⟨b10, rfl, hv14⟩
            refine AllE_cons rfl rfl rfl ?_
            rintro _ F14 ⟨b11, rfl, hv15⟩
            refine AllE_nil ?_
            intro hn10 hb10
            have hC32 := hC29.pushL hB24 (Bs := [Item.box b11 [(.int .i64 0), (.int .i64 0), (.int .i64 0), (.bool false)], Item.box b10 [(.slice none 0 0), (.int .i64 0), (.int .i64 0)], Item.own v16 (x23.1 : ((List Int) × Int × Int)), Item.own v17 (x23.2 : (Int × Int × Int × Bool))]) (Fs := [F14, F13, F11, F12]) ⟨F14, _, rfl, hv15, F13, _, rfl, hv14, F11, _, rfl, hv12, F12, _, rfl, hv13, rfl⟩ (by simpa using hn10) (fun b h => (hb10 b (by simpa using h)).1)
            have hC33 : Ctx [] w0 _ [Item.own v16 (x23.1 : ((List Int) × Int × Int)), Item.box b11 [(.int .i64 0), (.int .i64 0), (.int .i64 0), (.bool false)], Item.box b10 [(.slice none 0 0), (.int .i64 0), (.int .i64 0)], Item.own v17 (x23.2 : (Int × Int × Int × Bool)), Item.own v13 (x14 : (List Int)), Item.box b7 [v12, (.int .i64 x13.2.1), (.int .i64 x13.2.2)], Item.own v12 (x13.1 : (List Int)), Item.box b4 [(.int .i64 x5), (.int .i64 x6), (.int .i64 x7), (.bool x8)], Item.box b3 [v1, (.int .i64 x3), (.int .i64 x4)], Item.own v1 (x2 : (List Int)), Item.box b2 [(.int .i64 a2.1), (.int .i64 a2.2.1), (.int .i64 a2.2.2.1), (.bool a2.2.2.2)], Item.box b1 [u1, (.int .i64 a1.2.1), (.int .i64 a1.2.2)]] := hC32.front 2 rfl
            obtain ⟨v19, rfl, hC34⟩ := st26_own hC33
            have hC35 : Ctx [] w0 _ [Item.own v17 (x23.2 : (Int × Int × Int × Bool)), Item.own v19 (x23.1.1 : (List Int)), Item.box b11 [(.int .i64 0), (.int .i64 0), (.int .i64 0), (.bool false)], Item.box b10 [(.slice none 0 0), (.int .i64 0), (.int .i64 0)], Item.own v13 (x14 : (List Int)), Item.box b7 [v12, (.int .i64 x13.2.1), (.int .i64 x13.2.2)], Item.own v12 (x13.1 : (List Int)), Item.box b4 [(.int .i64 x5), (.int .i64 x6), (.int .i64 x7), (.bool x8)], Item.box b3 [v1, (.int .i64 x3), (.int .i64 x4)], Item.own v1 (x2 : (List Int)), Item.box b2 [(.int .i64 a2.1), (.int .i64 a2.2.1), (.int .i64 a2.2.2.1), (.bool a2.2.2.2)], Item.box b1 [u1, (.int .i64 a1.2.1), (.int .i64 a1.2.2)]] := hC34.front 3 rfl
            obtain ⟨rfl, hC36⟩ := st35_own hC35
            refine WA_one 10 (by kernel_rfl) rfl ?_
            refine WL_store_box_agg (cs' := [v19, (.int .i64 x23.1.2.1), (.int .i64 x23.1.2.2)]) (new := [v19, (.int .i64 x23.1.2.1), (.int .i64 x23.1.2.2)]) hC36 2 rfl rfl (by intro v hv; simp only [List.mem_cons, List.not_mem_nil, or_false] at hv; rcases hv with rfl | rfl | rfl; exact (ro_one (hC36.ro 0 rfl)); exact rfl; exact rfl) rfl Try.sizeOf26 rfl rfl (fun w28 hC37 => ?_)
            try dsimp only [List.set] at hC37
            refine WL_nil ?_
            refine WA_one 11 (by kernel_rfl) rfl ?_
            refine WL_store_box_agg (cs' := [(.int .i64 x23.2.1), (.int .i64 x23.2.2.1), (.int .i64 x23.2.2.2.1), (.bool x23.2.2.2.2)]) (new := [(.int .i64 x23.2.1), (.int .i64 x23.2.2.1), (.int .i64 x23.2.2.2.1), (.bool x23.2.2.2.2)]) hC37 1 rfl rfl (by intro v hv; simp only [List.mem_cons, List.not_mem_nil, or_false] at hv; rcases hv with rfl | rfl | rfl | rfl; exact rfl; exact rfl; exact rfl; exact rfl) rfl Try.sizeOf35 rfl rfl (fun w29 hC38 => ?_)
            try dsimp only [List.set] at hC38
            refine WL_nil ?_
            refine WA_done (by kernel_rfl) ?_
            have hq4 := Option.some.inj hr9
            subst hq4
            have hC39 : Ctx [] w0 _ [Item.box b1 [u1, (.int .i64 a1.2.1), (.int .i64 a1.2.2)], Item.own v19 (x23.1.1 : (List Int)), Item.box b11 [(.int .i64 x23.2.1), (.int .i64 x23.2.2.1), (.int .i64 x23.2.2.2.1), (.bool x23.2.2.2.2)], Item.box b10 [v19, (.int .i64 x23.1.2.1), (.int .i64 x23.1.2.2)], Item.own v13 (x14 : (List Int)), Item.box b7 [v12, (.int .i64 x13.2.1), (.int .i64 x13.2.2)], Item.own v12 (x13.1 : (List Int)), Item.box b4 [(.int .i64 x5), (.int .i64 x6), (.int .i64 x7), (.bool x8)], Item.box b3 [v1, (.int .i64 x3), (.int .i64 x4)], Item.own v1 (x2 : (List Int)), Item.box b2 [(.int .i64 a2.1), (.int .i64 a2.2.1), (.int .i64 a2.2.2.1), (.bool a2.2.2.2)]] := hC38.front 10 rfl
            have hC40 : Ctx [] w0 _ [Item.box b2 [(.int .i64 a2.1), (.int .i64 a2.2.1), (.int .i64 a2.2.2.1), (.bool a2.2.2.2)], Item.box b1 [u1, (.int .i64 a1.2.1), (.int .i64 a1.2.2)], Item.own v19 (x23.1.1 : (List Int)), Item.box b11 [(.int .i64 x23.2.1), (.int .i64 x23.2.2.1), (.int .i64 x23.2.2.2.1), (.bool x23.2.2.2.2)], Item.box b10 [v19, (.int .i64 x23.1.2.1), (.int .i64 x23.1.2.2)], Item.own v13 (x14 : (List Int)), Item.box b7 [v12, (.int .i64 x13.2.1), (.int .i64 x13.2.2)], Item.own v12 (x13.1 : (List Int)), Item.box b4 [(.int .i64 x5), (.int .i64 x6), (.int .i64 x7), (.bool x8)], Item.box b3 [v1, (.int .i64 x3), (.int .i64 x4)], Item.own v1 (x2 : (List Int))] := hC39.front 10 rfl
            have hC41 : Ctx [] w0 _ [Item.own v1 (x2 : (List Int)), Item.box b2 [(.int .i64 a2.1), (.int .i64 a2.2.1), (.int .i64 a2.2.2.1), (.bool a2.2.2.2)], Item.box b1 [u1, (.int .i64 a1.2.1), (.int .i64 a1.2.2)], Item.own v19 (x23.1.1 : (List Int)), Item.box b11 [(.int .i64 x23.2.1), (.int .i64 x23.2.2.1), (.int .i64 x23.2.2.2.1), (.bool x23.2.2.2.2)], Item.box b10 [v19, (.int .i64 x23.1.2.1), (.int .i64 x23.1.2.2)], Item.own v13 (x14 : (List Int)), Item.box b7 [v12, (.int .i64 x13.2.1), (.int .i64 x13.2.2)], Item.own v12 (x13.1 : (List Int)), Item.box b4 [(.int .i64 x5), (.int .i64 x6), (.int .i64 x7), (.bool x8)], Item.box b3 [v1, (.int .i64 x3), (.int .i64 x4)]] := hC40.front 10 rfl
            have hC42 : Ctx [] w0 _ [Item.box b3 [v1, (.int .i64 x3), (.int .i64 x4)], Item.own v1 (x2 : (List Int)), Item.box b2 [(.int .i64 a2.1), (.int .i64 a2.2.1), (.int .i64 a2.2.2.1), (.bool a2.2.2.2)], Item.box b1 [u1, (.int .i64 a1.2.1), (.int .i64 a1.2.2)], Item.own v19 (x23.1.1 : (List Int)), Item.box b11 [(.int .i64 x23.2.1), (.int .i64 x23.2.2.1), (.int .i64 x23.2.2.2.1), (.bool x23.2.2.2.2)], Item.box b10 [v19, (.int .i64 x23.1.2.1), (.int .i64 x23.1.2.2)], Item.own v13 (x14 : (List Int)), Item.box b7 [v12, (.int .i64 x13.2.1), (.int .i64 x13.2.2)], Item.own v12 (x13.1 : (List Int)), Item.box b4 [(.int .i64 x5), (.int .i64 x6), (.int .i64 x7), (.bool x8)]] := hC41.front 10 rfl
            have hC43 : Ctx [] w0 _ [Item.box b4 [(.int .i64 x5), (.int .i64 x6), (.int .i64 x7), (.bool x8)], Item.box b3 [v1, (.int .i64 x3), (.int .i64 x4)], Item.own v1 (x2 : (List Int)), Item.box b2 [(.int .i64 a2.1), (.int .i64 a2.2.1), (.int .i64 a2.2.2.1), (.bool a2.2.2.2)], Item.box b1 [u1, (.int .i64 a1.2.1), (.int .i64 a1.2.2)], Item.own v19 (x23.1.1 : (List Int)), Item.box b11 [(.int .i64 x23.2.1), (.int .i64 x23.2.2.1), (.int .i64 x23.2.2.2.1), (.bool x23.2.2.2.2)], Item.box b10 [v19, (.int .i64 x23.1.2.1), (.int .i64 x23.1.2.2)], Item.own v13 (x14 : (List Int)), Item.box b7 [v12, (.int .i64 x13.2.1), (.int .i64 x13.2.2)], Item.own v12 (x13.1 : (List Int))] := hC42.front 10 rfl
            have hC44 : Ctx [] w0 _ [Item.own v12 (x13.1 : (List Int)), Item.box b4 [(.int .i64 x5), (.int .i64 x6), (.int .i64 x7), (.bool x8)], Item.box b3 [v1, (.int .i64 x3), (.int .i64 x4)], Item.own v1 (x2 : (List Int)), Item.box b2 [(.int .i64 a2.1), (.int .i64 a2.2.1), (.int .i64 a2.2.2.1), (.bool a2.2.2.2)], Item.box b1 [u1, (.int .i64 a1.2.1), (.int .i64 a1.2.2)], Item.own v19 (x23.1.1 : (List Int)), Item.box b11 [(.int .i64 x23.2.1), (.int .i64 x23.2.2.1), (.int .i64 x23.2.2.2.1), (.bool x23.2.2.2.2)], Item.box b10 [v19, (.int .i64 x23.1.2.1), (.int .i64 x23.1.2.2)], Item.own v13 (x14 : (List Int)), Item.box b7 [v12, (.int .i64 x13.2.1), (.int .i64 x13.2.2)]] := hC43.front 10 rfl
            have hC45 : Ctx [] w0 _ [Item.box b7 [v12, (.int .i64 x13.2.1), (.int .i64 x13.2.2)], Item.own v12 (x13.1 : (List Int)), Item.box b4 [(.int .i64 x5), (.int .i64 x6), (.int .i64 x7), (.bool x8)], Item.box b3 [v1, (.int .i64 x3), (.int .i64 x4)], Item.own v1 (x2 : (List Int)), Item.box b2 [(.int .i64 a2.1), (.int .i64 a2.2.1), (.int .i64 a2.2.2.1), (.bool a2.2.2.2)], Item.box b1 [u1, (.int .i64 a1.2.1), (.int .i64 a1.2.2)], Item.own v19 (x23.1.1 : (List Int)), Item.box b11 [(.int .i64 x23.2.1), (.int .i64 x23.2.2.1), (.int .i64 x23.2.2.2.1), (.bool x23.2.2.2.2)], Item.box b10 [v19, (.int .i64 x23.1.2.1), (.int .i64 x23.1.2.2)], Item.own v13 (x14 : (List Int))] := hC44.front 10 rfl
            have hC46 : Ctx [] w0 _ [Item.own v13 (x14 : (List Int)), Item.box b7 [v12, (.int .i64 x13.2.1), (.int .i64 x13.2.2)], Item.own v12 (x13.1 : (List Int)), Item.box b4 [(.int .i64 x5), (.int .i64 x6), (.int .i64 x7), (.bool x8)], Item.box b3 [v1, (.int .i64 x3), (.int .i64 x4)], Item.own v1 (x2 : (List Int)), Item.box b2 [(.int .i64 a2.1), (.int .i64 a2.2.1), (.int .i64 a2.2.2.1), (.bool a2.2.2.2)], Item.box b1 [u1, (.int .i64 a1.2.1), (.int .i64 a1.2.2)], Item.own v19 (x23.1.1 : (List Int)), Item.box b11 [(.int .i64 x23.2.1), (.int .i64 x23.2.2.1), (.int .i64 x23.2.2.2.1), (.bool x23.2.2.2.2)], Item.box b10 [v19, (.int .i64 x23.1.2.1), (.int .i64 x23.1.2.2)]] := hC45.front 10 rfl
            have hC47 : Ctx [] w0 _ [Item.own v19 (x23.1.1 : (List Int)), Item.own v13 (x14 : (List Int)), Item.box b7 [v12, (.int .i64 x13.2.1), (.int .i64 x13.2.2)], Item.own v12 (x13.1 : (List Int)), Item.box b4 [(.int .i64 x5), (.int .i64 x6), (.int .i64 x7), (.bool x8)], Item.box b3 [v1, (.int .i64 x3), (.int .i64 x4)], Item.own v1 (x2 : (List Int)), Item.box b2 [(.int .i64 a2.1), (.int .i64 a2.2.1), (.int .i64 a2.2.2.1), (.bool a2.2.2.2)], Item.box b1 [u1, (.int .i64 a1.2.1), (.int .i64 a1.2.2)], Item.box b11 [(.int .i64 x23.2.1), (.int .i64 x23.2.2.1), (.int .i64 x23.2.2.2.1), (.bool x23.2.2.2.2)], Item.box b10 [v19, (.int .i64 x23.1.2.1), (.int .i64 x23.1.2.2)]] := hC46.front 8 rfl
            have hC48 : Ctx [] w0 _ [Item.box b10 [v19, (.int .i64 x23.1.2.1), (.int .i64 x23.1.2.2)], Item.own v19 (x23.1.1 : (List Int)), Item.own v13 (x14 : (List Int)), Item.box b7 [v12, (.int .i64 x13.2.1), (.int .i64 x13.2.2)], Item.own v12 (x13.1 : (List Int)), Item.box b4 [(.int .i64 x5), (.int .i64 x6), (.int .i64 x7), (.bool x8)], Item.box b3 [v1, (.int .i64 x3), (.int .i64 x4)], Item.own v1 (x2 : (List Int)), Item.box b2 [(.int .i64 a2.1), (.int .i64 a2.2.1), (.int .i64 a2.2.2.1), (.bool a2.2.2.2)], Item.box b1 [u1, (.int .i64 a1.2.1), (.int .i64 a1.2.2)], Item.box b11 [(.int .i64 x23.2.1), (.int .i64 x23.2.2.1), (.int .i64 x23.2.2.2.1), (.bool x23.2.2.2.2)]] := hC47.front 10 rfl
            have hC49 : Ctx [] w0 _ [Item.box b11 [(.int .i64 x23.2.1), (.int .i64 x23.2.2.1), (.int .i64 x23.2.2.2.1), (.bool x23.2.2.2.2)], Item.box b10 [v19, (.int .i64 x23.1.2.1), (.int .i64 x23.1.2.2)], Item.own v19 (x23.1.1 : (List Int)), Item.own v13 (x14 : (List Int)), Item.box b7 [v12, (.int .i64 x13.2.1), (.int .i64 x13.2.2)], Item.own v12 (x13.1 : (List Int)), Item.box b4 [(.int .i64 x5), (.int .i64 x6), (.int .i64 x7), (.bool x8)], Item.box b3 [v1, (.int .i64 x3), (.int .i64 x4)], Item.own v1 (x2 : (List Int)), Item.box b2 [(.int .i64 a2.1), (.int .i64 a2.2.1), (.int .i64 a2.2.2.1), (.bool a2.2.2.2)], Item.box b1 [u1, (.int .i64 a1.2.1), (.int .i64 a1.2.2)]] := hC48.front 10 rfl
            refine nrm_sub (l' := [(2, u2), (3, (ptr b1 0)), (4, (ptr b2 0)), (8, (ptr b3 0)), (9, (ptr b4 0)), (10, (ptr b7 0)), (11, v13), (12, (ptr b10 0)), (13, (ptr b11 0))]) ⟨rfl, rfl, rfl, rfl, rfl, rfl, rfl, rfl, rfl, trivial⟩ ?_
            exact ⟨b10, v19, x23.1.1, x23.1.2.1, x23.1.2.2, b11, x23.2.1, x23.2.2.1, x23.2.2.2.1, x23.2.2.2.2, rfl, rfl, hC49⟩
          · intro g' hg'
            obtain rfl : g' = 3 := hg'
            intro w27 hB24
            refine AllE_cons rfl rfl rfl ?_
            rintro _ _ ⟨rfl, rfl⟩
            refine AllE_cons rfl rfl rfl ?_
            rintro _ _ ⟨rfl, rfl⟩
            refine AllE_cons rfl rfl rfl ?_
            rintro _ _ ⟨rfl, rfl⟩
            refine AllE_cons rfl rfl rfl ?_
            rintro _ _ ⟨v16, v17, F11, F12, rfl, rfl, hv12, hv13⟩
            refine AllE_cons rfl rfl rfl ?_
            rintro _ _ ⟨rfl, rfl⟩
            refine AllE_cons rfl rfl rfl ?_
            rintro _ _ ⟨⟨_, hx5, hx6⟩, rfl⟩
            obtain rfl := Value.tuple.inj hx5
            obtain rfl := Option.some.inj (show (some v16 : Option Value) = some _ from hx6)
            refine AllE_cons rfl rfl rfl ?_
            rintro _ F13 ⟨b10, rfl, hv14⟩
            refine AllE_cons rfl rfl rfl ?_
            rintro _ F14 ⟨b11, rfl, hv15⟩
            refine AllE_nil ?_
            intro hn10 hb10
            have hC32 := hC29.pushL hB24 (Bs := [Item.box b11 [(.int .i64 0), (.int .i64 0), (.int .i64 0), (.bool false)], Item.box b10 [(.slice none 0 0), (.int .i64 0), (.int .i64 0)], Item.own v16 (x23.1 : ((List Int) × Int × Int)), Item.own v17 (x23.2 : (Int × Int × Int × Bool))]) (Fs := [F14, F13, F11, F12]) ⟨F14, _, rfl, hv15, F13, _, rfl, hv14, F11, _, rfl, hv12, F12, _, rfl, hv13, rfl⟩ (by simpa using hn10) (fun b h => (hb10 b (by simpa using h)).1)
            have hC33 : Ctx [] w0 _ [Item.own v16 (x23.1 : ((List Int) × Int × Int)), Item.box b11 [(.int .i64 0), (.int .i64 0), (.int .i64 0), (.bool false)], Item.box b10 [(.slice none 0 0), (.int .i64 0), (.int .i64 0)], Item.own v17 (x23.2 : (Int × Int × Int × Bool)), Item.own v13 (x14 : (List Int)), Item.box b7 [v12, (.int .i64 x13.2.1), (.int .i64 x13.2.2)], Item.own v12 (x13.1 : (List Int)), Item.box b4 [(.int .i64 x5), (.int .i64 x6), (.int .i64 x7), (.bool x8)], Item.box b3 [v1, (.int .i64 x3), (.int .i64 x4)], Item.own v1 (x2 : (List Int)), Item.box b2 [(.int .i64 a2.1), (.int .i64 a2.2.1), (.int .i64 a2.2.2.1), (.bool a2.2.2.2)], Item.box b1 [u1, (.int .i64 a1.2.1), (.int .i64 a1.2.2)]] := hC32.front 2 rfl
            obtain ⟨v19, rfl, hC34⟩ := st26_own hC33
            have hC35 : Ctx [] w0 _ [Item.own v17 (x23.2 : (Int × Int × Int × Bool)), Item.own v19 (x23.1.1 : (List Int)), Item.box b11 [(.int .i64 0), (.int .i64 0), (.int .i64 0), (.bool false)], Item.box b10 [(.slice none 0 0), (.int .i64 0), (.int .i64 0)], Item.own v13 (x14 : (List Int)), Item.box b7 [v12, (.int .i64 x13.2.1), (.int .i64 x13.2.2)], Item.own v12 (x13.1 : (List Int)), Item.box b4 [(.int .i64 x5), (.int .i64 x6), (.int .i64 x7), (.bool x8)], Item.box b3 [v1, (.int .i64 x3), (.int .i64 x4)], Item.own v1 (x2 : (List Int)), Item.box b2 [(.int .i64 a2.1), (.int .i64 a2.2.1), (.int .i64 a2.2.2.1), (.bool a2.2.2.2)], Item.box b1 [u1, (.int .i64 a1.2.1), (.int .i64 a1.2.2)]] := hC34.front 3 rfl
            obtain ⟨rfl, hC36⟩ := st35_own hC35
            refine WA_take 7 rfl (by kernel_rfl) (by kernel_rfl) (by kernel_rfl) rfl (fl_extract rfl rfl) ?_
            refine WL_extract rfl rfl rfl ?_
            refine WL_nil ?_
            refine WA_one 10 (by kernel_rfl) rfl ?_
            refine WL_store_box_agg (cs' := [v19, (.int .i64 x23.1.2.1), (.int .i64 x23.1.2.2)]) (new := [v19, (.int .i64 x23.1.2.1), (.int .i64 x23.1.2.2)]) hC36 2 rfl rfl (by intro v hv; simp only [List.mem_cons, List.not_mem_nil, or_false] at hv; rcases hv with rfl | rfl | rfl; exact (ro_one (hC36.ro 0 rfl)); exact rfl; exact rfl) rfl Try.sizeOf26 rfl rfl (fun w28 hC37 => ?_)
            try dsimp only [List.set] at hC37
            refine WL_nil ?_
            refine WA_one 11 (by kernel_rfl) rfl ?_
            refine WL_store_box_agg (cs' := [(.int .i64 x23.2.1), (.int .i64 x23.2.2.1), (.int .i64 x23.2.2.2.1), (.bool x23.2.2.2.2)]) (new := [(.int .i64 x23.2.1), (.int .i64 x23.2.2.1), (.int .i64 x23.2.2.2.1), (.bool x23.2.2.2.2)]) hC37 1 rfl rfl (by intro v hv; simp only [List.mem_cons, List.not_mem_nil, or_false] at hv; rcases hv with rfl | rfl | rfl | rfl; exact rfl; exact rfl; exact rfl; exact rfl) rfl Try.sizeOf35 rfl rfl (fun w29 hC38 => ?_)
            try dsimp only [List.set] at hC38
            refine WL_nil ?_
            refine WA_done (by kernel_rfl) ?_
            have hq4 := Option.some.inj hr9
            subst hq4
            have hC39 : Ctx [] w0 _ [Item.box b1 [u1, (.int .i64 a1.2.1), (.int .i64 a1.2.2)], Item.own v19 (x23.1.1 : (List Int)), Item.box b11 [(.int .i64 x23.2.1), (.int .i64 x23.2.2.1), (.int .i64 x23.2.2.2.1), (.bool x23.2.2.2.2)], Item.box b10 [v19, (.int .i64 x23.1.2.1), (.int .i64 x23.1.2.2)], Item.own v13 (x14 : (List Int)), Item.box b7 [v12, (.int .i64 x13.2.1), (.int .i64 x13.2.2)], Item.own v12 (x13.1 : (List Int)), Item.box b4 [(.int .i64 x5), (.int .i64 x6), (.int .i64 x7), (.bool x8)], Item.box b3 [v1, (.int .i64 x3), (.int .i64 x4)], Item.own v1 (x2 : (List Int)), Item.box b2 [(.int .i64 a2.1), (.int .i64 a2.2.1), (.int .i64 a2.2.2.1), (.bool a2.2.2.2)]] := hC38.front 10 rfl
            have hC40 : Ctx [] w0 _ [Item.box b2 [(.int .i64 a2.1), (.int .i64 a2.2.1), (.int .i64 a2.2.2.1), (.bool a2.2.2.2)], Item.box b1 [u1, (.int .i64 a1.2.1), (.int .i64 a1.2.2)], Item.own v19 (x23.1.1 : (List Int)), Item.box b11 [(.int .i64 x23.2.1), (.int .i64 x23.2.2.1), (.int .i64 x23.2.2.2.1), (.bool x23.2.2.2.2)], Item.box b10 [v19, (.int .i64 x23.1.2.1), (.int .i64 x23.1.2.2)], Item.own v13 (x14 : (List Int)), Item.box b7 [v12, (.int .i64 x13.2.1), (.int .i64 x13.2.2)], Item.own v12 (x13.1 : (List Int)), Item.box b4 [(.int .i64 x5), (.int .i64 x6), (.int .i64 x7), (.bool x8)], Item.box b3 [v1, (.int .i64 x3), (.int .i64 x4)], Item.own v1 (x2 : (List Int))] := hC39.front 10 rfl
            have hC41 : Ctx [] w0 _ [Item.own v1 (x2 : (List Int)), Item.box b2 [(.int .i64 a2.1), (.int .i64 a2.2.1), (.int .i64 a2.2.2.1), (.bool a2.2.2.2)], Item.box b1 [u1, (.int .i64 a1.2.1), (.int .i64 a1.2.2)], Item.own v19 (x23.1.1 : (List Int)), Item.box b11 [(.int .i64 x23.2.1), (.int .i64 x23.2.2.1), (.int .i64 x23.2.2.2.1), (.bool x23.2.2.2.2)], Item.box b10 [v19, (.int .i64 x23.1.2.1), (.int .i64 x23.1.2.2)], Item.own v13 (x14 : (List Int)), Item.box b7 [v12, (.int .i64 x13.2.1), (.int .i64 x13.2.2)], Item.own v12 (x13.1 : (List Int)), Item.box b4 [(.int .i64 x5), (.int .i64 x6), (.int .i64 x7), (.bool x8)], Item.box b3 [v1, (.int .i64 x3), (.int .i64 x4)]] := hC40.front 10 rfl
            have hC42 : Ctx [] w0 _ [Item.box b3 [v1, (.int .i64 x3), (.int .i64 x4)], Item.own v1 (x2 : (List Int)), Item.box b2 [(.int .i64 a2.1), (.int .i64 a2.2.1), (.int .i64 a2.2.2.1), (.bool a2.2.2.2)], Item.box b1 [u1, (.int .i64 a1.2.1), (.int .i64 a1.2.2)], Item.own v19 (x23.1.1 : (List Int)), Item.box b11 [(.int .i64 x23.2.1), (.int .i64 x23.2.2.1), (.int .i64 x23.2.2.2.1), (.bool x23.2.2.2.2)], Item.box b10 [v19, (.int .i64 x23.1.2.1), (.int .i64 x23.1.2.2)], Item.own v13 (x14 : (List Int)), Item.box b7 [v12, (.int .i64 x13.2.1), (.int .i64 x13.2.2)], Item.own v12 (x13.1 : (List Int)), Item.box b4 [(.int .i64 x5), (.int .i64 x6), (.int .i64 x7), (.bool x8)]] := hC41.front 10 rfl
            have hC43 : Ctx [] w0 _ [Item.box b4 [(.int .i64 x5), (.int .i64 x6), (.int .i64 x7), (.bool x8)], Item.box b3 [v1, (.int .i64 x3), (.int .i64 x4)], Item.own v1 (x2 : (List Int)), Item.box b2 [(.int .i64 a2.1), (.int .i64 a2.2.1), (.int .i64 a2.2.2.1), (.bool a2.2.2.2)], Item.box b1 [u1, (.int .i64 a1.2.1), (.int .i64 a1.2.2)], Item.own v19 (x23.1.1 : (List Int)), Item.box b11 [(.int .i64 x23.2.1), (.int .i64 x23.2.2.1), (.int .i64 x23.2.2.2.1), (.bool x23.2.2.2.2)], Item.box b10 [v19, (.int .i64 x23.1.2.1), (.int .i64 x23.1.2.2)], Item.own v13 (x14 : (List Int)), Item.box b7 [v12, (.int .i64 x13.2.1), (.int .i64 x13.2.2)], Item.own v12 (x13.1 : (List Int))] := hC42.front 10 rfl
            have hC44 : Ctx [] w0 _ [Item.own v12 (x13.1 : (List Int)), Item.box b4 [(.int .i64 x5), (.int .i64 x6), (.int .i64 x7), (.bool x8)], Item.box b3 [v1, (.int .i64 x3), (.int .i64 x4)], Item.own v1 (x2 : (List Int)), Item.box b2 [(.int .i64 a2.1), (.int .i64 a2.2.1), (.int .i64 a2.2.2.1), (.bool a2.2.2.2)], Item.box b1 [u1, (.int .i64 a1.2.1), (.int .i64 a1.2.2)], Item.own v19 (x23.1.1 : (List Int)), Item.box b11 [(.int .i64 x23.2.1), (.int .i64 x23.2.2.1), (.int .i64 x23.2.2.2.1), (.bool x23.2.2.2.2)], Item.box b10 [v19, (.int .i64 x23.1.2.1), (.int .i64 x23.1.2.2)], Item.own v13 (x14 : (List Int)), Item.box b7 [v12, (.int .i64 x13.2.1), (.int .i64 x13.2.2)]] := hC43.front 10 rfl
            have hC45 : Ctx [] w0 _ [Item.box b7 [v12, (.int .i64 x13.2.1), (.int .i64 x13.2.2)], Item.own v12 (x13.1 : (List Int)), Item.box b4 [(.int .i64 x5), (.int .i64 x6), (.int .i64 x7), (.bool x8)], Item.box b3 [v1, (.int .i64 x3), (.int .i64 x4)], Item.own v1 (x2 : (List Int)), Item.box b2 [(.int .i64 a2.1), (.int .i64 a2.2.1), (.int .i64 a2.2.2.1), (.bool a2.2.2.2)], Item.box b1 [u1, (.int .i64 a1.2.1), (.int .i64 a1.2.2)], Item.own v19 (x23.1.1 : (List Int)), Item.box b11 [(.int .i64 x23.2.1), (.int .i64 x23.2.2.1), (.int .i64 x23.2.2.2.1), (.bool x23.2.2.2.2)], Item.box b10 [v19, (.int .i64 x23.1.2.1), (.int .i64 x23.1.2.2)], Item.own v13 (x14 : (List Int))] := hC44.front 10 rfl
            have hC46 : Ctx [] w0 _ [Item.own v13 (x14 : (List Int)), Item.box b7 [v12, (.int .i64 x13.2.1), (.int .i64 x13.2.2)], Item.own v12 (x13.1 : (List Int)), Item.box b4 [(.int .i64 x5), (.int .i64 x6), (.int .i64 x7), (.bool x8)], Item.box b3 [v1, (.int .i64 x3), (.int .i64 x4)], Item.own v1 (x2 : (List Int)), Item.box b2 [(.int .i64 a2.1), (.int .i64 a2.2.1), (.int .i64 a2.2.2.1), (.bool a2.2.2.2)], Item.box b1 [u1, (.int .i64 a1.2.1), (.int .i64 a1.2.2)], Item.own v19 (x23.1.1 : (List Int)), Item.box b11 [(.int .i64 x23.2.1), (.int .i64 x23.2.2.1), (.int .i64 x23.2.2.2.1), (.bool x23.2.2.2.2)], Item.box b10 [v19, (.int .i64 x23.1.2.1), (.int .i64 x23.1.2.2)]] := hC45.front 10 rfl
            have hC47 : Ctx [] w0 _ [Item.own v19 (x23.1.1 : (List Int)), Item.own v13 (x14 : (List Int)), Item.box b7 [v12, (.int .i64 x13.2.1), (.int .i64 x13.2.2)], Item.own v12 (x13.1 : (List Int)), Item.box b4 [(.int .i64 x5), (.int .i64 x6), (.int .i64 x7), (.bool x8)], Item.box b3 [v1, (.int .i64 x3), (.int .i64 x4)], Item.own v1 (x2 : (List Int)), Item.box b2 [(.int .i64 a2.1), (.int .i64 a2.2.1), (.int .i64 a2.2.2.1), (.bool a2.2.2.2)], Item.box b1 [u1, (.int .i64 a1.2.1), (.int .i64 a1.2.2)], Item.box b11 [(.int .i64 x23.2.1), (.int .i64 x23.2.2.1), (.int .i64 x23.2.2.2.1), (.bool x23.2.2.2.2)], Item.box b10 [v19, (.int .i64 x23.1.2.1), (.int .i64 x23.1.2.2)]] := hC46.front 8 rfl
            have hC48 : Ctx [] w0 _ [Item.box b10 [v19, (.int .i64 x23.1.2.1), (.int .i64 x23.1.2.2)], Item.own v19 (x23.1.1 : (List Int)), Item.own v13 (x14 : (List Int)), Item.box b7 [v12, (.int .i64 x13.2.1), (.int .i64 x13.2.2)], Item.own v12 (x13.1 : (List Int)), Item.box b4 [(.int .i64 x5), (.int .i64 x6), (.int .i64 x7), (.bool x8)], Item.box b3 [v1, (.int .i64 x3), (.int .i64 x4)], Item.own v1 (x2 : (List Int)), Item.box b2 [(.int .i64 a2.1), (.int .i64 a2.2.1), (.int .i64 a2.2.2.1), (.bool a2.2.2.2)], Item.box b1 [u1, (.int .i64 a1.2.1), (.int .i64 a1.2.2)], Item.box b11 [(.int .i64 x23.2.1), (.int .i64 x23.2.2.1), (.int .i64 x23.2.2.2.1), (.bool x23.2.2.2.2)]] := hC47.front 10 rfl
            have hC49 : Ctx [] w0 _ [Item.box b11 [(.int .i64 x23.2.1), (.int .i64 x23.2.2.1), (.int .i64 x23.2.2.2.1), (.bool x23.2.2.2.2)], Item.box b10 [v19, (.int .i64 x23.1.2.1), (.int .i64 x23.1.2.2)], Item.own v19 (x23.1.1 : (List Int)), Item.own v13 (x14 : (List Int)), Item.box b7 [v12, (.int .i64 x13.2.1), (.int .i64 x13.2.2)], Item.own v12 (x13.1 : (List Int)), Item.box b4 [(.int .i64 x5), (.int .i64 x6), (.int .i64 x7), (.bool x8)], Item.box b3 [v1, (.int .i64 x3), (.int .i64 x4)], Item.own v1 (x2 : (List Int)), Item.box b2 [(.int .i64 a2.1), (.int .i64 a2.2.1), (.int .i64 a2.2.2.1), (.bool a2.2.2.2)], Item.box b1 [u1, (.int .i64 a1.2.1), (.int .i64 a1.2.2)]] := hC48.front 10 rfl
            refine nrm_sub (l' := [(2, u2), (3, (ptr b1 0)), (4, (ptr b2 0)), (8, (ptr b3 0)), (9, (ptr b4 0)), (10, (ptr b7 0)), (11, v13), (12, (ptr b10 0)), (13, (ptr b11 0))]) ⟨rfl, rfl, rfl, rfl, rfl, rfl, rfl, rfl, rfl, trivial⟩ ?_
            exact ⟨b10, v19, x23.1.1, x23.1.2.1, x23.1.2.2, b11, x23.2.1, x23.2.2.1, x23.2.2.2.1, x23.2.2.2.2, rfl, rfl, hC49⟩
        · rintro _ w20 ⟨b8, v14, x15, x16, x17, b9, x18, x19, x20, x21, rfl, rfl, hC28⟩
          try dsimp only at hF
          refine W_seq ?_
          obtain ⟨r3, hr12, hF⟩ := bind_some hF
          refine W_cut (fun l w => ∃ x24 : Bool, x24 = r3 ∧ l = [(2, u2), (3, (ptr b1 0)), (4, (ptr b2 0)), (8, (ptr b3 0)), (9, (ptr b4 0)), (10, (ptr b7 0)), (11, v13), (12, (ptr b8 0)), (13, (ptr b9 0)), (58, (.bool x24))] ∧ Below w20.heap.size w20 w ∧ Ctx [] w0 w [Item.box b9 [(.int .i64 x18), (.int .i64 x19), (.int .i64 x20), (.bool x21)], Item.box b8 [v14, (.int .i64 x16), (.int .i64 x17)], Item.own v14 (x15 : (List Int)), Item.own v13 (x14 : (List Int)), Item.box b7 [v12, (.int .i64 x13.2.1), (.int .i64 x13.2.2)], Item.own v12 (x13.1 : (List Int)), Item.box b4 [(.int .i64 x5), (.int .i64 x6), (.int .i64 x7), (.bool x8)], Item.box b3 [v1, (.int .i64 x3), (.int .i64 x4)], Item.own v1 (x2 : (List Int)), Item.box b2 [(.int .i64 a2.1), (.int .i64 a2.2.1), (.int .i64 a2.2.2.1), (.bool a2.2.2.2)], Item.box b1 [u1, (.int .i64 a1.2.1), (.int .i64 a1.2.2)]]) ?_ ?_
          · refine W_reg ?_
            refine WL_load_box_agg [v14, (.int .i64 x16), (.int .i64 x17)] hC28 1 rfl rfl rfl Try.isAgg26 Try.sizeOf26 rfl rfl ?_
            refine WL_load_box_agg [v1, (.int .i64 x3), (.int .i64 x4)] hC28 7 rfl rfl rfl Try.isAgg26 Try.sizeOf26 rfl rfl ?_
            obtain ⟨x25, hr13, hr12⟩ := bind_some hr12
            refine WL_call Try.call19 rfl rfl (c_Q_eqLedger (x15, x16, x17) v14 ((hC28.ro 2 rfl).now (Keep.refl _ _)) (x2, x3, x4) v1 ((hC28.ro 8 rfl).now (Keep.refl _ _)) x25 hr13) ?_
            intro _ w31 hv16
            obtain ⟨rfl, hB26⟩ := res_bool hv16
            have hC51 := hC28.grow hB26
            refine WL_not rfl rfl ?_
            refine WL_move rfl rfl ?_
            refine WL_fork (fun hc3 => ?_) (fun hc3 => ?_)
            · replace hr12 := ite_t hr12 hc3
              refine WL_guard_skip rfl rfl (by simp) rfl ?_
              refine WL_guard_skip rfl rfl (by simp) rfl ?_
              refine WL_guard_skip rfl rfl (by simp) rfl ?_
              refine WL_guard_skip rfl rfl (by simp) rfl ?_
              refine WL_pick_t rfl rfl rfl ?_
              refine WL_nil ?_
              have hq5 := Option.some.inj hr12
              subst hq5
              refine nrm_sub (l' := [(2, u2), (3, (ptr b1 0)), (4, (ptr b2 0)), (8, (ptr b3 0)), (9, (ptr b4 0)), (10, (ptr b7 0)), (11, v13), (12, (ptr b8 0)), (13, (ptr b9 0)), (58, (.bool true))]) ⟨rfl, rfl, rfl, rfl, rfl, rfl, rfl, rfl, rfl, rfl, trivial⟩ ?_
              exact ⟨true, rfl, rfl, (Keep.of hB26).below, hC51⟩
            · replace hr12 := ite_f hr12 hc3
              refine WL_guard rfl rfl ?_
              refine WL_load_box_agg [(.int .i64 x18), (.int .i64 x19), (.int .i64 x20), (.bool x21)] hC51 0 rfl rfl rfl Try.isAgg35 Try.sizeOf35 rfl rfl ?_
              refine WL_guard rfl rfl ?_
              refine WL_load_box_agg [(.int .i64 x5), (.int .i64 x6), (.int .i64 x7), (.bool x8)] hC51 6 rfl rfl rfl Try.isAgg35 Try.sizeOf35 rfl rfl ?_
              obtain ⟨x26, hr14, hr12⟩ := bind_some hr12
              refine WL_guard rfl rfl ?_
              refine WL_call Try.call25 rfl rfl (c_Q_eqCall (x18, x19, x20, x21) (x5, x6, x7, x8) x26 hr14) ?_
              intro _ w32 hv17
              obtain ⟨rfl, hB27⟩ := res_bool hv17
              have hC52 := hC51.grow hB27
              refine WL_guard rfl rfl ?_
              refine WL_not rfl rfl ?_
              refine WL_pick_f rfl rfl rfl ?_
              refine WL_nil ?_
              have hq6 := Option.some.inj hr12
              subst hq6
              refine nrm_sub (l' := [(2, u2), (3, (ptr b1 0)), (4, (ptr b2 0)), (8, (ptr b3 0)), (9, (ptr b4 0)), (10, (ptr b7 0)), (11, v13), (12, (ptr b8 0)), (13, (ptr b9 0)), (58, (.bool (!x26)))]) ⟨rfl, rfl, rfl, rfl, rfl, rfl, rfl, rfl, rfl, rfl, trivial⟩ ?_
              exact ⟨(!x26), rfl, rfl, ((Keep.of hB26).then hB27).below, hC52⟩
          · rintro _ w30 ⟨x24, rfl, rfl, hB25, hC50⟩
            try dsimp only at hF
            refine W_cond rfl (fun hc4 => ?_) (fun hc4 => ?_)
            · replace hF := ite_t hF hc4
              refine W_seq_reg ?_
              refine WL_assign rfl rfl ?_
              refine WL_nil ?_
              refine W_ret ?_
              refine nrm_ret ?_
              have hq7 := Option.some.inj hF
              subst hq7
              refine fn_ret1 rfl rfl ?_
              exact ⟨_, rfl, bool_res hC50 _⟩
            · replace hF := ite_f hF hc4
              refine W_skip ?_
              refine nrm_normal ?_
              refine W_seq ?_
              refine W_seq ?_
              refine W_drawn 5 rfl hmix (fun w33 hB28 => ?_)
              have hC53 := hC50.grow hB28
              obtain ⟨x27, hr15, hF⟩ := bind_some hF
              refine WA.sub (l' := [(2, u2), (3, (ptr b1 0)), (4, (ptr b2 0)), (8, (ptr b3 0)), (9, (ptr b4 0)), (10, (ptr b7 0)), (11, v13), (12, (ptr b8 0)), (13, (ptr b9 0)), (58, (.bool x24))]) ?_ ⟨rfl, rfl, rfl, rfl, rfl, rfl, rfl, rfl, rfl, rfl, trivial⟩
              refine WA_postsE [⟨0, [], fun vs => PW.val (.agg #[v12, (.int .i64 x13.2.1), (.int .i64 x13.2.2)]), []⟩, ⟨1, [], fun vs => PW.val (.agg #[u1, (.int .i64 a1.2.1), (.int .i64 a1.2.2)]), []⟩, ⟨2, [], fun vs => PW.own x27, []⟩] [[], [], [1]] 2 rfl (by kernel_rfl) (by kernel_rfl) rfl ?_ ?_
              · refine StepsE_cons rfl ?_ ?_
                · intro w35 hB30
                  refine DepsE_nil ?_
                  refine ⟨_, rfl, ?_⟩
                  refine WL_load_box_agg [v12, (.int .i64 x13.2.1), (.int .i64 x13.2.2)] (hC53.grow hB30) 4 rfl rfl rfl Try.isAgg26 Try.sizeOf26 rfl rfl ?_
                  refine WL_nil ?_
                  exact FinE_val (Below.refl _ _) rfl rfl ⟨rfl, rfl⟩
                refine StepsE_cons rfl ?_ ?_
                · intro w35 hB30
                  refine DepsE_nil ?_
                  refine ⟨_, rfl, ?_⟩
                  refine WL_load_box_agg [u1, (.int .i64 a1.2.1), (.int .i64 a1.2.2)] (hC53.grow hB30) 10 rfl rfl rfl Try.isAgg24 Try.sizeOf24 rfl rfl ?_
                  refine WL_nil ?_
                  exact FinE_val (Below.refl _ _) rfl rfl ⟨rfl, rfl⟩
                refine StepsE_cons rfl ?_ ?_
                · intro w35 hB30
                  refine DepsE_cons rfl rfl rfl ?_
                  rintro _ _ ⟨rfl, rfl⟩ _
                  refine DepsE_nil ?_
                  refine ⟨_, rfl, ?_⟩
                  refine WL_call Try.call17 rfl rfl (c_Q_toLedger (a1.1, a1.2.1, a1.2.2) u1 (g1.now (hC53.keep.then hB30)) x27 hr15) ?_
                  rintro v20 w34 ⟨hB29, F15, hv18, hn11, hb11⟩
                  refine WL_nil ?_
                  exact FinE_own hB29 rfl rfl hv18 hn11 hb11 (Val.inh hv18)
                exact StepsE_nil
              · intro w36 hB31
                refine AllE_cons rfl rfl rfl ?_
                rintro _ _ ⟨rfl, rfl⟩
                refine AllE_cons rfl rfl rfl ?_
                rintro _ _ ⟨rfl, rfl⟩
                refine AllE_cons rfl rfl rfl ?_
                intro v20 F15 hv18
                refine AllE_nil ?_
                intro hn12 hb12
                have hC54 := hC53.pushL hB31 (Bs := [Item.own v20 (x27 : ((List Int) × Int × Int))]) (Fs := [F15]) ⟨F15, _, rfl, hv18, rfl⟩ (by simpa using hn12) (fun b h => (hb12 b (by simpa using h)).1)
                obtain ⟨v22, rfl, hC55⟩ := st26_own hC54
                obtain ⟨x28, hr16, hF⟩ := bind_some hF
                refine WA_one 3 (by kernel_rfl) rfl ?_
                refine WL_call Try.call19 rfl rfl (c_Q_eqLedger (x13.1, x13.2.1, x13.2.2) v12 ((hC55.ro 6 rfl).now (Keep.refl _ _)) x27 v22 ((hC55.ro 0 rfl).now (Keep.refl _ _)) x28 hr16) ?_
                intro _ w37 hv19
                obtain ⟨rfl, hB32⟩ := res_bool hv19
                have hC56 := hC55.grow hB32
                refine WL_nil ?_
                refine WA_take 4 rfl (by kernel_rfl) (by kernel_rfl) (by kernel_rfl) rfl (fl_not rfl) ?_
                refine WL_not rfl rfl ?_
                refine WL_nil ?_
                refine WA_done (by kernel_rfl) ?_
                refine nrm_normal ?_
                refine W_cond rfl (fun hc5 => ?_) (fun hc5 => ?_)
                · replace hF := ite_t hF hc5
                  refine W_seq_reg ?_
                  refine WL_assign rfl rfl ?_
                  refine WL_nil ?_
                  refine W_ret ?_
                  refine nrm_ret ?_
                  have hq8 := Option.some.inj hF
                  subst hq8
                  refine fn_ret1 rfl rfl ?_
                  exact ⟨_, rfl, bool_res hC56 _⟩
                · replace hF := ite_f hF hc5
                  refine W_skip ?_
                  refine nrm_normal ?_
                  refine W_seq ?_
                  refine W_seq_reg ?_
                  refine WL_move rfl rfl ?_
                  refine WL_move rfl rfl ?_
                  obtain ⟨x29, hr17, hF⟩ := bind_some hF
                  refine WL_call Try.call37 rfl rfl (c_Q_toIntS a3 u2 (g2.now hC56.keep) x29 hr17) ?_
                  rintro v23 w38 ⟨hB33, F16, hv20, hn13, hb13⟩
                  have hC57 := hC56.push hB33 (A := Item.own v23 x29) hv20 hn13 hb13
                  obtain ⟨x30, hr18, hF⟩ := bind_some hF
                  refine WL_call Try.call39 rfl rfl (c_Q_eqIntS x14 v13 ((hC57.ro 5 rfl).now (Keep.refl _ _)) x29 v23 ((hC57.ro 0 rfl).now (Keep.refl _ _)) x30 hr18) ?_
                  intro _ w39 hv21
                  obtain ⟨rfl, hB34⟩ := res_bool hv21
                  have hC58 := hC57.grow hB34
                  refine WL_not rfl rfl ?_
                  refine WL_nil ?_
                  refine W_cond rfl (fun hc6 => ?_) (fun hc6 => ?_)
                  · replace hF := ite_t hF hc6
                    refine W_seq_reg ?_
                    refine WL_assign rfl rfl ?_
                    refine WL_nil ?_
                    refine W_ret ?_
                    refine nrm_ret ?_
                    have hq9 := Option.some.inj hF
                    subst hq9
                    refine fn_ret1 rfl rfl ?_
                    exact ⟨_, rfl, bool_res hC58 _⟩
                  · replace hF := ite_f hF hc6
                    refine W_skip ?_
                    refine nrm_normal ?_
                    refine W_seq_reg ?_
                    refine WL_assign rfl rfl ?_
                    refine WL_nil ?_
                    refine W_seq_reg ?_
                    refine WL_load_box_agg [v12, (.int .i64 x13.2.1), (.int .i64 x13.2.2)] hC58 6 rfl rfl rfl Try.isAgg26 Try.sizeOf26 rfl rfl ?_
                    refine WL_move rfl rfl ?_
                    obtain ⟨x31, hr19, hF⟩ := bind_some hF
                    have hC59 : Ctx [] w0 _ [Item.own v12 (x13.1 : (List Int)), Item.own v23 (x29 : (List Int)), Item.own v22 (x27.1 : (List Int)), Item.box b9 [(.int .i64 x18), (.int .i64 x19), (.int .i64 x20), (.bool x21)], Item.box b8 [v14, (.int .i64 x16), (.int .i64 x17)], Item.own v14 (x15 : (List Int)), Item.own v13 (x14 : (List Int)), Item.box b7 [v12, (.int .i64 x13.2.1), (.int .i64 x13.2.2)], Item.box b4 [(.int .i64 x5), (.int .i64 x6), (.int .i64 x7), (.bool x8)], Item.box b3 [v1, (.int .i64 x3), (.int .i64 x4)], Item.own v1 (x2 : (List Int)), Item.box b2 [(.int .i64 a2.1), (.int .i64 a2.2.1), (.int .i64 a2.2.2.1), (.bool a2.2.2.2)], Item.box b1 [u1, (.int .i64 a1.2.1), (.int .i64 a1.2.2)]] := hC58.front 7 rfl
                    obtain ⟨Fs1, hH1, hn14, hF1, hO1, hb14⟩ := Ctx.lend2 (As := [Item.own v23 (x29 : (List Int)), Item.own v22 (x27.1 : (List Int)), Item.box b9 [(.int .i64 x18), (.int .i64 x19), (.int .i64 x20), (.bool x21)], Item.box b8 [v14, (.int .i64 x16), (.int .i64 x17)], Item.own v14 (x15 : (List Int)), Item.own v13 (x14 : (List Int)), Item.box b7 [v12, (.int .i64 x13.2.1), (.int .i64 x13.2.2)], Item.box b4 [(.int .i64 x5), (.int .i64 x6), (.int .i64 x7), (.bool x8)], Item.box b3 [v1, (.int .i64 x3), (.int .i64 x4)], Item.own v1 (x2 : (List Int)), Item.box b2 [(.int .i64 a2.1), (.int .i64 a2.2.1), (.int .i64 a2.2.2.1), (.bool a2.2.2.2)], Item.box b1 [u1, (.int .i64 a1.2.1), (.int .i64 a1.2.2)]]) [Item.own v12 (x13.1 : (List Int))] hC59
                    refine WL_call Try.call20 rfl rfl (c_Q_markLedger (x13.1, x13.2.1, x13.2.2) v12 1 hH1 hn14 x31 hr19) ?_
                    rintro _ w40 ⟨rfl, hq10⟩
                    have hC60 : Ctx [] w0 w40 [Item.own v12 (x31.2.1 : (List Int)), Item.own v23 (x29 : (List Int)), Item.own v22 (x27.1 : (List Int)), Item.box b9 [(.int .i64 x18), (.int .i64 x19), (.int .i64 x20), (.bool x21)], Item.box b8 [v14, (.int .i64 x16), (.int .i64 x17)], Item.own v14 (x15 : (List Int)), Item.own v13 (x14 : (List Int)), Item.box b7 [v12, (.int .i64 x13.2.1), (.int .i64 x13.2.2)], Item.box b4 [(.int .i64 x5), (.int .i64 x6), (.int .i64 x7), (.bool x8)], Item.box b3 [v1, (.int .i64 x3), (.int .i64 x4)], Item.own v1 (x2 : (List Int)), Item.box b2 [(.int .i64 a2.1), (.int .i64 a2.2.1), (.int .i64 a2.2.2.1), (.bool a2.2.2.2)], Item.box b1 [u1, (.int .i64 a1.2.1), (.int .i64 a1.2.2)]] := hb14 _ _ hq10
                    refine WL_assign rfl rfl ?_
                    refine WL_nil ?_
                    refine W_seq_reg ?_
                    refine WL_move rfl rfl ?_
                    refine WL_move rfl rfl ?_
                    obtain ⟨x32, hr20, hF⟩ := bind_some hF
                    have hC61 : Ctx [] w0 _ [Item.own v13 (x14 : (List Int)), Item.own v12 (x31.2.1 : (List Int)), Item.own v23 (x29 : (List Int)), Item.own v22 (x27.1 : (List Int)), Item.box b9 [(.int .i64 x18), (.int .i64 x19), (.int .i64 x20), (.bool x21)], Item.box b8 [v14, (.int .i64 x16), (.int .i64 x17)], Item.own v14 (x15 : (List Int)), Item.box b7 [v12, (.int .i64 x13.2.1), (.int .i64 x13.2.2)], Item.box b4 [(.int .i64 x5), (.int .i64 x6), (.int .i64 x7), (.bool x8)], Item.box b3 [v1, (.int .i64 x3), (.int .i64 x4)], Item.own v1 (x2 : (List Int)), Item.box b2 [(.int .i64 a2.1), (.int .i64 a2.2.1), (.int .i64 a2.2.2.1), (.bool a2.2.2.2)], Item.box b1 [u1, (.int .i64 a1.2.1), (.int .i64 a1.2.2)]] := hC60.front 6 rfl
                    obtain ⟨Fs2, hH2, hn15, hF2, hO2, hb15⟩ := Ctx.lend2 (As := [Item.own v12 (x31.2.1 : (List Int)), Item.own v23 (x29 : (List Int)), Item.own v22 (x27.1 : (List Int)), Item.box b9 [(.int .i64 x18), (.int .i64 x19), (.int .i64 x20), (.bool x21)], Item.box b8 [v14, (.int .i64 x16), (.int .i64 x17)], Item.own v14 (x15 : (List Int)), Item.box b7 [v12, (.int .i64 x13.2.1), (.int .i64 x13.2.2)], Item.box b4 [(.int .i64 x5), (.int .i64 x6), (.int .i64 x7), (.bool x8)], Item.box b3 [v1, (.int .i64 x3), (.int .i64 x4)], Item.own v1 (x2 : (List Int)), Item.box b2 [(.int .i64 a2.1), (.int .i64 a2.2.1), (.int .i64 a2.2.2.1), (.bool a2.2.2.2)], Item.box b1 [u1, (.int .i64 a1.2.1), (.int .i64 a1.2.2)]]) [Item.own v13 (x14 : (List Int))] hC61
                    refine WL_call Try.call40 rfl rfl (c_Q_markIntS x14 v13 x31.1 hH2 hn15 x32 hr20) ?_
                    rintro _ w41 ⟨rfl, hq11⟩
                    have hC62 : Ctx [] w0 w41 [Item.own v13 (x32.2 : (List Int)), Item.own v12 (x31.2.1 : (List Int)), Item.own v23 (x29 : (List Int)), Item.own v22 (x27.1 : (List Int)), Item.box b9 [(.int .i64 x18), (.int .i64 x19), (.int .i64 x20), (.bool x21)], Item.box b8 [v14, (.int .i64 x16), (.int .i64 x17)], Item.own v14 (x15 : (List Int)), Item.box b7 [v12, (.int .i64 x13.2.1), (.int .i64 x13.2.2)], Item.box b4 [(.int .i64 x5), (.int .i64 x6), (.int .i64 x7), (.bool x8)], Item.box b3 [v1, (.int .i64 x3), (.int .i64 x4)], Item.own v1 (x2 : (List Int)), Item.box b2 [(.int .i64 a2.1), (.int .i64 a2.2.1), (.int .i64 a2.2.2.1), (.bool a2.2.2.2)], Item.box b1 [u1, (.int .i64 a1.2.1), (.int .i64 a1.2.2)]] := hb15 _ _ hq11
                    refine WL_assign rfl rfl ?_
                    refine WL_nil ?_
                    refine W_seq ?_
                    obtain ⟨r4, hr21, hF⟩ := bind_some hF
                    refine W_cut (fun l w => ∃ x33 : Bool, x33 = r4 ∧ l = [(2, u2), (3, (ptr b1 0)), (4, (ptr b2 0)), (8, (ptr b3 0)), (9, (ptr b4 0)), (12, (ptr b8 0)), (88, (.bool x33))] ∧ Below w41.heap.size w41 w ∧ Ctx [] w0 w [Item.box b8 [v14, (.int .i64 x16), (.int .i64 x17)], Item.own v14 (x15 : (List Int)), Item.box b4 [(.int .i64 x5), (.int .i64 x6), (.int .i64 x7), (.bool x8)], Item.box b3 [v1, (.int .i64 x3), (.int .i64 x4)], Item.own v1 (x2 : (List Int)), Item.box b2 [(.int .i64 a2.1), (.int .i64 a2.2.1), (.int .i64 a2.2.2.1), (.bool a2.2.2.2)], Item.box b1 [u1, (.int .i64 a1.2.1), (.int .i64 a1.2.2)]]) ?_ ?_
                    · refine W_reg ?_
                      refine WL_move rfl rfl ?_
                      refine WL_lss rfl rfl rfl ?_
                      refine WL_move rfl rfl ?_
                      refine WL_fork (fun hc7 => ?_) (fun hc7 => ?_)
                      · replace hr21 := ite_t hr21 hc7
                        refine WL_guard_skip rfl rfl (by simp) rfl ?_
                        refine WL_guard_skip rfl rfl (by simp) rfl ?_
                        refine WL_guard_skip rfl rfl (by simp) rfl ?_
                        refine WL_guard_skip rfl rfl (by simp) rfl ?_
                        refine WL_pick_t rfl rfl rfl ?_
                        refine WL_move rfl rfl ?_
                        refine WL_guard_skip rfl rfl (by simp) rfl ?_
                        refine WL_guard_skip rfl rfl (by simp) rfl ?_
                        refine WL_guard_skip rfl rfl (by simp) rfl ?_
                        refine WL_guard_skip rfl rfl (by simp) rfl ?_
                        refine WL_pick_t rfl rfl rfl ?_
                        refine WL_nil ?_
                        have hq12 := Option.some.inj hr21
                        subst hq12
                        have hC64 : Ctx [] w0 _ [Item.box b1 [u1, (.int .i64 a1.2.1), (.int .i64 a1.2.2)], Item.own v13 (x32.2 : (List Int)), Item.own v12 (x31.2.1 : (List Int)), Item.own v23 (x29 : (List Int)), Item.own v22 (x27.1 : (List Int)), Item.box b9 [(.int .i64 x18), (.int .i64 x19), (.int .i64 x20), (.bool x21)], Item.box b8 [v14, (.int .i64 x16), (.int .i64 x17)], Item.own v14 (x15 : (List Int)), Item.box b7 [v12, (.int .i64 x13.2.1), (.int .i64 x13.2.2)], Item.box b4 [(.int .i64 x5), (.int .i64 x6), (.int .i64 x7), (.bool x8)], Item.box b3 [v1, (.int .i64 x3), (.int .i64 x4)], Item.own v1 (x2 : (List Int)), Item.box b2 [(.int .i64 a2.1), (.int .i64 a2.2.1), (.int .i64 a2.2.2.1), (.bool a2.2.2.2)]] := hC62.front 12 rfl
                        have hC65 : Ctx [] w0 _ [Item.box b2 [(.int .i64 a2.1), (.int .i64 a2.2.1), (.int .i64 a2.2.2.1), (.bool a2.2.2.2)], Item.box b1 [u1, (.int .i64 a1.2.1), (.int .i64 a1.2.2)], Item.own v13 (x32.2 : (List Int)), Item.own v12 (x31.2.1 : (List Int)), Item.own v23 (x29 : (List Int)), Item.own v22 (x27.1 : (List Int)), Item.box b9 [(.int .i64 x18), (.int .i64 x19), (.int .i64 x20), (.bool x21)], Item.box b8 [v14, (.int .i64 x16), (.int .i64 x17)], Item.own v14 (x15 : (List Int)), Item.box b7 [v12, (.int .i64 x13.2.1), (.int .i64 x13.2.2)], Item.box b4 [(.int .i64 x5), (.int .i64 x6), (.int .i64 x7), (.bool x8)], Item.box b3 [v1, (.int .i64 x3), (.int .i64 x4)], Item.own v1 (x2 : (List Int))] := hC64.front 12 rfl
                        have hC66 : Ctx [] w0 _ [Item.own v1 (x2 : (List Int)), Item.box b2 [(.int .i64 a2.1), (.int .i64 a2.2.1), (.int .i64 a2.2.2.1), (.bool a2.2.2.2)], Item.box b1 [u1, (.int .i64 a1.2.1), (.int .i64 a1.2.2)], Item.own v13 (x32.2 : (List Int)), Item.own v12 (x31.2.1 : (List Int)), Item.own v23 (x29 : (List Int)), Item.own v22 (x27.1 : (List Int)), Item.box b9 [(.int .i64 x18), (.int .i64 x19), (.int .i64 x20), (.bool x21)], Item.box b8 [v14, (.int .i64 x16), (.int .i64 x17)], Item.own v14 (x15 : (List Int)), Item.box b7 [v12, (.int .i64 x13.2.1), (.int .i64 x13.2.2)], Item.box b4 [(.int .i64 x5), (.int .i64 x6), (.int .i64 x7), (.bool x8)], Item.box b3 [v1, (.int .i64 x3), (.int .i64 x4)]] := hC65.front 12 rfl
                        have hC67 : Ctx [] w0 _ [Item.box b3 [v1, (.int .i64 x3), (.int .i64 x4)], Item.own v1 (x2 : (List Int)), Item.box b2 [(.int .i64 a2.1), (.int .i64 a2.2.1), (.int .i64 a2.2.2.1), (.bool a2.2.2.2)], Item.box b1 [u1, (.int .i64 a1.2.1), (.int .i64 a1.2.2)], Item.own v13 (x32.2 : (List Int)), Item.own v12 (x31.2.1 : (List Int)), Item.own v23 (x29 : (List Int)), Item.own v22 (x27.1 : (List Int)), Item.box b9 [(.int .i64 x18), (.int .i64 x19), (.int .i64 x20), (.bool x21)], Item.box b8 [v14, (.int .i64 x16), (.int .i64 x17)], Item.own v14 (x15 : (List Int)), Item.box b7 [v12, (.int .i64 x13.2.1), (.int .i64 x13.2.2)], Item.box b4 [(.int .i64 x5), (.int .i64 x6), (.int .i64 x7), (.bool x8)]] := hC66.front 12 rfl
                        have hC68 : Ctx [] w0 _ [Item.box b4 [(.int .i64 x5), (.int .i64 x6), (.int .i64 x7), (.bool x8)], Item.box b3 [v1, (.int .i64 x3), (.int .i64 x4)], Item.own v1 (x2 : (List Int)), Item.box b2 [(.int .i64 a2.1), (.int .i64 a2.2.1), (.int .i64 a2.2.2.1), (.bool a2.2.2.2)], Item.box b1 [u1, (.int .i64 a1.2.1), (.int .i64 a1.2.2)], Item.own v13 (x32.2 : (List Int)), Item.own v12 (x31.2.1 : (List Int)), Item.own v23 (x29 : (List Int)), Item.own v22 (x27.1 : (List Int)), Item.box b9 [(.int .i64 x18), (.int .i64 x19), (.int .i64 x20), (.bool x21)], Item.box b8 [v14, (.int .i64 x16), (.int .i64 x17)], Item.own v14 (x15 : (List Int)), Item.box b7 [v12, (.int .i64 x13.2.1), (.int .i64 x13.2.2)]] := hC67.front 12 rfl
                        have hC69 : Ctx [] w0 _ [Item.own v14 (x15 : (List Int)), Item.box b4 [(.int .i64 x5), (.int .i64 x6), (.int .i64 x7), (.bool x8)], Item.box b3 [v1, (.int .i64 x3), (.int .i64 x4)], Item.own v1 (x2 : (List Int)), Item.box b2 [(.int .i64 a2.1), (.int .i64 a2.2.1), (.int .i64 a2.2.2.1), (.bool a2.2.2.2)], Item.box b1 [u1, (.int .i64 a1.2.1), (.int .i64 a1.2.2)], Item.own v13 (x32.2 : (List Int)), Item.own v12 (x31.2.1 : (List Int)), Item.own v23 (x29 : (List Int)), Item.own v22 (x27.1 : (List Int)), Item.box b9 [(.int .i64 x18), (.int .i64 x19), (.int .i64 x20), (.bool x21)], Item.box b8 [v14, (.int .i64 x16), (.int .i64 x17)], Item.box b7 [v12, (.int .i64 x13.2.1), (.int .i64 x13.2.2)]] := hC68.front 11 rfl
                        have hC70 : Ctx [] w0 _ [Item.box b8 [v14, (.int .i64 x16), (.int .i64 x17)], Item.own v14 (x15 : (List Int)), Item.box b4 [(.int .i64 x5), (.int .i64 x6), (.int .i64 x7), (.bool x8)], Item.box b3 [v1, (.int .i64 x3), (.int .i64 x4)], Item.own v1 (x2 : (List Int)), Item.box b2 [(.int .i64 a2.1), (.int .i64 a2.2.1), (.int .i64 a2.2.2.1), (.bool a2.2.2.2)], Item.box b1 [u1, (.int .i64 a1.2.1), (.int .i64 a1.2.2)], Item.own v13 (x32.2 : (List Int)), Item.own v12 (x31.2.1 : (List Int)), Item.own v23 (x29 : (List Int)), Item.own v22 (x27.1 : (List Int)), Item.box b9 [(.int .i64 x18), (.int .i64 x19), (.int .i64 x20), (.bool x21)], Item.box b7 [v12, (.int .i64 x13.2.1), (.int .i64 x13.2.2)]] := hC69.front 11 rfl
                        have hC71 : Ctx [] w0 _ [Item.box b8 [v14, (.int .i64 x16), (.int .i64 x17)], Item.own v14 (x15 : (List Int)), Item.box b4 [(.int .i64 x5), (.int .i64 x6), (.int .i64 x7), (.bool x8)], Item.box b3 [v1, (.int .i64 x3), (.int .i64 x4)], Item.own v1 (x2 : (List Int)), Item.box b2 [(.int .i64 a2.1), (.int .i64 a2.2.1), (.int .i64 a2.2.2.1), (.bool a2.2.2.2)], Item.box b1 [u1, (.int .i64 a1.2.1), (.int .i64 a1.2.2)]] := hC70.headN 7
                        refine nrm_sub (l' := [(2, u2), (3, (ptr b1 0)), (4, (ptr b2 0)), (8, (ptr b3 0)), (9, (ptr b4 0)), (12, (ptr b8 0)), (88, (.bool true))]) ⟨rfl, rfl, rfl, rfl, rfl, rfl, rfl, trivial⟩ ?_
                        exact ⟨true, rfl, rfl, (Below.refl _ _), hC71⟩
                      · replace hr21 := ite_f hr21 hc7
                        refine WL_guard rfl rfl ?_
                        refine WL_load_box_agg [v14, (.int .i64 x16), (.int .i64 x17)] hC62 5 rfl rfl rfl Try.isAgg26 Try.sizeOf26 rfl rfl ?_
                        refine WL_guard rfl rfl ?_
                        refine WL_load_box_agg [v1, (.int .i64 x3), (.int .i64 x4)] hC62 9 rfl rfl rfl Try.isAgg26 Try.sizeOf26 rfl rfl ?_
                        obtain ⟨x34, hr22, hr21⟩ := bind_some hr21
                        refine WL_guard rfl rfl ?_
                        refine WL_call Try.call19 rfl rfl (c_Q_eqLedger (x15, x16, x17) v14 ((hC62.ro 6 rfl).now (Keep.refl _ _)) (x2, x3, x4) v1 ((hC62.ro 10 rfl).now (Keep.refl _ _)) x34 hr22) ?_
                        intro _ w43 hv22
                        obtain ⟨rfl, hB36⟩ := res_bool hv22
                        have hC72 := hC62.grow hB36
                        refine WL_guard rfl rfl ?_
                        refine WL_not rfl rfl ?_
                        refine WL_pick_f rfl rfl rfl ?_
                        refine WL_move rfl rfl ?_
                        refine WL_fork (fun hc8 => ?_) (fun hc8 => ?_)
                        · replace hr21 := ite_t hr21 hc8
                          refine WL_guard_skip rfl rfl (by simp) rfl ?_
                          refine WL_guard_skip rfl rfl (by simp) rfl ?_
                          refine WL_guard_skip rfl rfl (by simp) rfl ?_
                          refine WL_guard_skip rfl rfl (by simp) rfl ?_
                          refine WL_pick_t rfl rfl rfl ?_
                          refine WL_nil ?_
                          have hq13 := Option.some.inj hr21
                          subst hq13
                          have hC73 : Ctx [] w0 _ [Item.box b1 [u1, (.int .i64 a1.2.1), (.int .i64 a1.2.2)], Item.own v13 (x32.2 : (List Int)), Item.own v12 (x31.2.1 : (List Int)), Item.own v23 (x29 : (List Int)), Item.own v22 (x27.1 : (List Int)), Item.box b9 [(.int .i64 x18), (.int .i64 x19), (.int .i64 x20), (.bool x21)], Item.box b8 [v14, (.int .i64 x16), (.int .i64 x17)], Item.own v14 (x15 : (List Int)), Item.box b7 [v12, (.int .i64 x13.2.1), (.int .i64 x13.2.2)], Item.box b4 [(.int .i64 x5), (.int .i64 x6), (.int .i64 x7), (.bool x8)], Item.box b3 [v1, (.int .i64 x3), (.int .i64 x4)], Item.own v1 (x2 : (List Int)), Item.box b2 [(.int .i64 a2.1), (.int .i64 a2.2.1), (.int .i64 a2.2.2.1), (.bool a2.2.2.2)]] := hC72.front 12 rfl
                          have hC74 : Ctx [] w0 _ [Item.box b2 [(.int .i64 a2.1), (.int .i64 a2.2.1), (.int .i64 a2.2.2.1), (.bool a2.2.2.2)], Item.box b1 [u1, (.int .i64 a1.2.1), (.int .i64 a1.2.2)], Item.own v13 (x32.2 : (List Int)), Item.own v12 (x31.2.1 : (List Int)), Item.own v23 (x29 : (List Int)), Item.own v22 (x27.1 : (List Int)), Item.box b9 [(.int .i64 x18), (.int .i64 x19), (.int .i64 x20), (.bool x21)], Item.box b8 [v14, (.int .i64 x16), (.int .i64 x17)], Item.own v14 (x15 : (List Int)), Item.box b7 [v12, (.int .i64 x13.2.1), (.int .i64 x13.2.2)], Item.box b4 [(.int .i64 x5), (.int .i64 x6), (.int .i64 x7), (.bool x8)], Item.box b3 [v1, (.int .i64 x3), (.int .i64 x4)], Item.own v1 (x2 : (List Int))] := hC73.front 12 rfl
                          have hC75 : Ctx [] w0 _ [Item.own v1 (x2 : (List Int)), Item.box b2 [(.int .i64 a2.1), (.int .i64 a2.2.1), (.int .i64 a2.2.2.1), (.bool a2.2.2.2)], Item.box b1 [u1, (.int .i64 a1.2.1), (.int .i64 a1.2.2)], Item.own v13 (x32.2 : (List Int)), Item.own v12 (x31.2.1 : (List Int)), Item.own v23 (x29 : (List Int)), Item.own v22 (x27.1 : (List Int)), Item.box b9 [(.int .i64 x18), (.int .i64 x19), (.int .i64 x20), (.bool x21)], Item.box b8 [v14, (.int .i64 x16), (.int .i64 x17)], Item.own v14 (x15 : (List Int)), Item.box b7 [v12, (.int .i64 x13.2.1), (.int .i64 x13.2.2)], Item.box b4 [(.int .i64 x5), (.int .i64 x6), (.int .i64 x7), (.bool x8)], Item.box b3 [v1, (.int .i64 x3), (.int .i64 x4)]] := hC74.front 12 rfl
                          have hC76 : Ctx [] w0 _ [Item.box b3 [v1, (.int .i64 x3), (.int .i64 x4)], Item.own v1 (x2 : (List Int)), Item.box b2 [(.int .i64 a2.1), (.int .i64 a2.2.1), (.int .i64 a2.2.2.1), (.bool a2.2.2.2)], Item.box b1 [u1, (.int .i64 a1.2.1), (.int .i64 a1.2.2)], Item.own v13 (x32.2 : (List Int)), Item.own v12 (x31.2.1 : (List Int)), Item.own v23 (x29 : (List Int)), Item.own v22 (x27.1 : (List Int)), Item.box b9 [(.int .i64 x18), (.int .i64 x19), (.int .i64 x20), (.bool x21)], Item.box b8 [v14, (.int .i64 x16), (.int .i64 x17)], Item.own v14 (x15 : (List Int)), Item.box b7 [v12, (.int .i64 x13.2.1), (.int .i64 x13.2.2)], Item.box b4 [(.int .i64 x5), (.int .i64 x6), (.int .i64 x7), (.bool x8)]] := hC75.front 12 rfl
                          have hC77 : Ctx [] w0 _ [Item.box b4 [(.int .i64 x5), (.int .i64 x6), (.int .i64 x7), (.bool x8)], Item.box b3 [v1, (.int .i64 x3), (.int .i64 x4)], Item.own v1 (x2 : (List Int)), Item.box b2 [(.int .i64 a2.1), (.int .i64 a2.2.1), (.int .i64 a2.2.2.1), (.bool a2.2.2.2)], Item.box b1 [u1, (.int .i64 a1.2.1), (.int .i64 a1.2.2)], Item.own v13 (x32.2 : (List Int)), Item.own v12 (x31.2.1 : (List Int)), Item.own v23 (x29 : (List Int)), Item.own v22 (x27.1 : (List Int)), Item.box b9 [(.int .i64 x18), (.int .i64 x19), (.int .i64 x20), (.bool x21)], Item.box b8 [v14, (.int .i64 x16), (.int .i64 x17)], Item.own v14 (x15 : (List Int)), Item.box b7 [v12, (.int .i64 x13.2.1), (.int .i64 x13.2.2)]] := hC76.front 12 rfl
                          have hC78 : Ctx [] w0 _ [Item.own v14 (x15 : (List Int)), Item.box b4 [(.int .i64 x5), (.int .i64 x6), (.int .i64 x7), (.bool x8)], Item.box b3 [v1, (.int .i64 x3), (.int .i64 x4)], Item.own v1 (x2 : (List Int)), Item.box b2 [(.int .i64 a2.1), (.int .i64 a2.2.1), (.int .i64 a2.2.2.1), (.bool a2.2.2.2)], Item.box b1 [u1, (.int .i64 a1.2.1), (.int .i64 a1.2.2)], Item.own v13 (x32.2 : (List Int)), Item.own v12 (x31.2.1 : (List Int)), Item.own v23 (x29 : (List Int)), Item.own v22 (x27.1 : (List Int)), Item.box b9 [(.int .i64 x18), (.int .i64 x19), (.int .i64 x20), (.bool x21)], Item.box b8 [v14, (.int .i64 x16), (.int .i64 x17)], Item.box b7 [v12, (.int .i64 x13.2.1), (.int .i64 x13.2.2)]] := hC77.front 11 rfl
                          have hC79 : Ctx [] w0 _ [Item.box b8 [v14, (.int .i64 x16), (.int .i64 x17)], Item.own v14 (x15 : (List Int)), Item.box b4 [(.int .i64 x5), (.int .i64 x6), (.int .i64 x7), (.bool x8)], Item.box b3 [v1, (.int .i64 x3), (.int .i64 x4)], Item.own v1 (x2 : (List Int)), Item.box b2 [(.int .i64 a2.1), (.int .i64 a2.2.1), (.int .i64 a2.2.2.1), (.bool a2.2.2.2)], Item.box b1 [u1, (.int .i64 a1.2.1), (.int .i64 a1.2.2)], Item.own v13 (x32.2 : (List Int)), Item.own v12 (x31.2.1 : (List Int)), Item.own v23 (x29 : (List Int)), Item.own v22 (x27.1 : (List Int)), Item.box b9 [(.int .i64 x18), (.int .i64 x19), (.int .i64 x20), (.bool x21)], Item.box b7 [v12, (.int .i64 x13.2.1), (.int .i64 x13.2.2)]] := hC78.front 11 rfl
                          have hC80 : Ctx [] w0 _ [Item.box b8 [v14, (.int .i64 x16), (.int .i64 x17)], Item.own v14 (x15 : (List Int)), Item.box b4 [(.int .i64 x5), (.int .i64 x6), (.int .i64 x7), (.bool x8)], Item.box b3 [v1, (.int .i64 x3), (.int .i64 x4)], Item.own v1 (x2 : (List Int)), Item.box b2 [(.int .i64 a2.1), (.int .i64 a2.2.1), (.int .i64 a2.2.2.1), (.bool a2.2.2.2)], Item.box b1 [u1, (.int .i64 a1.2.1), (.int .i64 a1.2.2)]] := hC79.headN 7
                          refine nrm_sub (l' := [(2, u2), (3, (ptr b1 0)), (4, (ptr b2 0)), (8, (ptr b3 0)), (9, (ptr b4 0)), (12, (ptr b8 0)), (88, (.bool true))]) ⟨rfl, rfl, rfl, rfl, rfl, rfl, rfl, trivial⟩ ?_
                          exact ⟨true, rfl, rfl, (Keep.of hB36).below, hC80⟩
                        · replace hr21 := ite_f hr21 hc8
                          refine WL_guard rfl rfl ?_
                          refine WL_load_box_agg [(.int .i64 x18), (.int .i64 x19), (.int .i64 x20), (.bool x21)] hC72 4 rfl rfl rfl Try.isAgg35 Try.sizeOf35 rfl rfl ?_
                          refine WL_guard rfl rfl ?_
                          refine WL_load_box_agg [(.int .i64 x5), (.int .i64 x6), (.int .i64 x7), (.bool x8)] hC72 8 rfl rfl rfl Try.isAgg35 Try.sizeOf35 rfl rfl ?_
                          obtain ⟨x35, hr23, hr21⟩ := bind_some hr21
                          refine WL_guard rfl rfl ?_
                          refine WL_call Try.call25 rfl rfl (c_Q_eqCall (x18, x19, x20, x21) (x5, x6, x7, x8) x35 hr23) ?_
                          intro _ w44 hv23
                          obtain ⟨rfl, hB37⟩ := res_bool hv23
                          have hC81 := hC72.grow hB37
                          refine WL_guard rfl rfl ?_
                          refine WL_not rfl rfl ?_
                          refine WL_pick_f rfl rfl rfl ?_
                          refine WL_nil ?_
                          have hq14 := Option.some.inj hr21
                          subst hq14
                          have hC82 : Ctx [] w0 _ [Item.box b1 [u1, (.int .i64 a1.2.1), (.int .i64 a1.2.2)], Item.own v13 (x32.2 : (List Int)), Item.own v12 (x31.2.1 : (List Int)), Item.own v23 (x29 : (List Int)), Item.own v22 (x27.1 : (List Int)), Item.box b9 [(.int .i64 x18), (.int .i64 x19), (.int .i64 x20), (.bool x21)], Item.box b8 [v14, (.int .i64 x16), (.int .i64 x17)], Item.own v14 (x15 : (List Int)), Item.box b7 [v12, (.int .i64 x13.2.1), (.int .i64 x13.2.2)], Item.box b4 [(.int .i64 x5), (.int .i64 x6), (.int .i64 x7), (.bool x8)], Item.box b3 [v1, (.int .i64 x3), (.int .i64 x4)], Item.own v1 (x2 : (List Int)), Item.box b2 [(.int .i64 a2.1), (.int .i64 a2.2.1), (.int .i64 a2.2.2.1), (.bool a2.2.2.2)]] := hC81.front 12 rfl
                          have hC83 : Ctx [] w0 _ [Item.box b2 [(.int .i64 a2.1), (.int .i64 a2.2.1), (.int .i64 a2.2.2.1), (.bool a2.2.2.2)], Item.box b1 [u1, (.int .i64 a1.2.1), (.int .i64 a1.2.2)], Item.own v13 (x32.2 : (List Int)), Item.own v12 (x31.2.1 : (List Int)), Item.own v23 (x29 : (List Int)), Item.own v22 (x27.1 : (List Int)), Item.box b9 [(.int .i64 x18), (.int .i64 x19), (.int .i64 x20), (.bool x21)], Item.box b8 [v14, (.int .i64 x16), (.int .i64 x17)], Item.own v14 (x15 : (List Int)), Item.box b7 [v12, (.int .i64 x13.2.1), (.int .i64 x13.2.2)], Item.box b4 [(.int .i64 x5), (.int .i64 x6), (.int .i64 x7), (.bool x8)], Item.box b3 [v1, (.int .i64 x3), (.int .i64 x4)], Item.own v1 (x2 : (List Int))] := hC82.front 12 rfl
                          have hC84 : Ctx [] w0 _ [Item.own v1 (x2 : (List Int)), Item.box b2 [(.int .i64 a2.1), (.int .i64 a2.2.1), (.int .i64 a2.2.2.1), (.bool a2.2.2.2)], Item.box b1 [u1, (.int .i64 a1.2.1), (.int .i64 a1.2.2)], Item.own v13 (x32.2 : (List Int)), Item.own v12 (x31.2.1 : (List Int)), Item.own v23 (x29 : (List Int)), Item.own v22 (x27.1 : (List Int)), Item.box b9 [(.int .i64 x18), (.int .i64 x19), (.int .i64 x20), (.bool x21)], Item.box b8 [v14, (.int .i64 x16), (.int .i64 x17)], Item.own v14 (x15 : (List Int)), Item.box b7 [v12, (.int .i64 x13.2.1), (.int .i64 x13.2.2)], Item.box b4 [(.int .i64 x5), (.int .i64 x6), (.int .i64 x7), (.bool x8)], Item.box b3 [v1, (.int .i64 x3), (.int .i64 x4)]] := hC83.front 12 rfl
                          have hC85 : Ctx [] w0 _ [Item.box b3 [v1, (.int .i64 x3), (.int .i64 x4)], Item.own v1 (x2 : (List Int)), Item.box b2 [(.int .i64 a2.1), (.int .i64 a2.2.1), (.int .i64 a2.2.2.1), (.bool a2.2.2.2)], Item.box b1 [u1, (.int .i64 a1.2.1), (.int .i64 a1.2.2)], Item.own v13 (x32.2 : (List Int)), Item.own v12 (x31.2.1 : (List Int)), Item.own v23 (x29 : (List Int)), Item.own v22 (x27.1 : (List Int)), Item.box b9 [(.int .i64 x18), (.int .i64 x19), (.int .i64 x20), (.bool x21)], Item.box b8 [v14, (.int .i64 x16), (.int .i64 x17)], Item.own v14 (x15 : (List Int)), Item.box b7 [v12, (.int .i64 x13.2.1), (.int .i64 x13.2.2)], Item.box b4 [(.int .i64 x5), (.int .i64 x6), (.int .i64 x7), (.bool x8)]] := hC84.front 12 rfl
                          have hC86 : Ctx [] w0 _ [Item.box b4 [(.int .i64 x5), (.int .i64 x6), (.int .i64 x7), (.bool x8)], Item.box b3 [v1, (.int .i64 x3), (.int .i64 x4)], Item.own v1 (x2 : (List Int)), Item.box b2 [(.int .i64 a2.1), (.int .i64 a2.2.1), (.int .i64 a2.2.2.1), (.bool a2.2.2.2)], Item.box b1 [u1, (.int .i64 a1.2.1), (.int .i64 a1.2.2)], Item.own v13 (x32.2 : (List Int)), Item.own v12 (x31.2.1 : (List Int)), Item.own v23 (x29 : (List Int)), Item.own v22 (x27.1 : (List Int)), Item.box b9 [(.int .i64 x18), (.int .i64 x19), (.int .i64 x20), (.bool x21)], Item.box b8 [v14, (.int .i64 x16), (.int .i64 x17)], Item.own v14 (x15 : (List Int)), Item.box b7 [v12, (.int .i64 x13.2.1), (.int .i64 x13.2.2)]] := hC85.front 12 rfl
                          have hC87 : Ctx [] w0 _ [Item.own v14 (x15 : (List Int)), Item.box b4 [(.int .i64 x5), (.int .i64 x6), (.int .i64 x7), (.bool x8)], Item.box b3 [v1, (.int .i64 x3), (.int .i64 x4)], Item.own v1 (x2 : (List Int)), Item.box b2 [(.int .i64 a2.1), (.int .i64 a2.2.1), (.int .i64 a2.2.2.1), (.bool a2.2.2.2)], Item.box b1 [u1, (.int .i64 a1.2.1), (.int .i64 a1.2.2)], Item.own v13 (x32.2 : (List Int)), Item.own v12 (x31.2.1 : (List Int)), Item.own v23 (x29 : (List Int)), Item.own v22 (x27.1 : (List Int)), Item.box b9 [(.int .i64 x18), (.int .i64 x19), (.int .i64 x20), (.bool x21)], Item.box b8 [v14, (.int .i64 x16), (.int .i64 x17)], Item.box b7 [v12, (.int .i64 x13.2.1), (.int .i64 x13.2.2)]] := hC86.front 11 rfl
                          have hC88 : Ctx [] w0 _ [Item.box b8 [v14, (.int .i64 x16), (.int .i64 x17)], Item.own v14 (x15 : (List Int)), Item.box b4 [(.int .i64 x5), (.int .i64 x6), (.int .i64 x7), (.bool x8)], Item.box b3 [v1, (.int .i64 x3), (.int .i64 x4)], Item.own v1 (x2 : (List Int)), Item.box b2 [(.int .i64 a2.1), (.int .i64 a2.2.1), (.int .i64 a2.2.2.1), (.bool a2.2.2.2)], Item.box b1 [u1, (.int .i64 a1.2.1), (.int .i64 a1.2.2)], Item.own v13 (x32.2 : (List Int)), Item.own v12 (x31.2.1 : (List Int)), Item.own v23 (x29 : (List Int)), Item.own v22 (x27.1 : (List Int)), Item.box b9 [(.int .i64 x18), (.int .i64 x19), (.int .i64 x20), (.bool x21)], Item.box b7 [v12, (.int .i64 x13.2.1), (.int .i64 x13.2.2)]] := hC87.front 11 rfl
                          have hC89 : Ctx [] w0 _ [Item.box b8 [v14, (.int .i64 x16), (.int .i64 x17)], Item.own v14 (x15 : (List Int)), Item.box b4 [(.int .i64 x5), (.int .i64 x6), (.int .i64 x7), (.bool x8)], Item.box b3 [v1, (.int .i64 x3), (.int .i64 x4)], Item.own v1 (x2 : (List Int)), Item.box b2 [(.int .i64 a2.1), (.int .i64 a2.2.1), (.int .i64 a2.2.2.1), (.bool a2.2.2.2)], Item.box b1 [u1, (.int .i64 a1.2.1), (.int .i64 a1.2.2)]] := hC88.headN 7
                          refine nrm_sub (l' := [(2, u2), (3, (ptr b1 0)), (4, (ptr b2 0)), (8, (ptr b3 0)), (9, (ptr b4 0)), (12, (ptr b8 0)), (88, (.bool (!x35)))]) ⟨rfl, rfl, rfl, rfl, rfl, rfl, rfl, trivial⟩ ?_
                          exact ⟨(!x35), rfl, rfl, ((Keep.of hB36).then hB37).below, hC89⟩
                    · rintro _ w42 ⟨x33, rfl, rfl, hB35, hC63⟩
                      try dsimp only at hF
                      refine W_cond rfl (fun hc9 => ?_) (fun hc9 => ?_)
                      · replace hF := ite_t hF hc9
                        refine W_seq_reg ?_
                        refine WL_assign rfl rfl ?_
                        refine WL_nil ?_
                        refine W_ret ?_
                        refine nrm_ret ?_
                        have hq15 := Option.some.inj hF
                        subst hq15
                        refine fn_ret1 rfl rfl ?_
                        exact ⟨_, rfl, bool_res hC63 _⟩
                      · replace hF := ite_f hF hc9
                        refine W_skip ?_
                        refine nrm_normal ?_
                        refine W_seq_reg ?_
                        refine WL_assign rfl rfl ?_
                        refine WL_nil ?_
                        refine W_seq_reg ?_
                        refine WL_load_box_agg [v14, (.int .i64 x16), (.int .i64 x17)] hC63 0 rfl rfl rfl Try.isAgg26 Try.sizeOf26 rfl rfl ?_
                        refine WL_move rfl rfl ?_
                        obtain ⟨x36, hr24, hF⟩ := bind_some hF
                        have hC90 : Ctx [] w0 _ [Item.own v14 (x15 : (List Int)), Item.box b8 [v14, (.int .i64 x16), (.int .i64 x17)], Item.box b4 [(.int .i64 x5), (.int .i64 x6), (.int .i64 x7), (.bool x8)], Item.box b3 [v1, (.int .i64 x3), (.int .i64 x4)], Item.own v1 (x2 : (List Int)), Item.box b2 [(.int .i64 a2.1), (.int .i64 a2.2.1), (.int .i64 a2.2.2.1), (.bool a2.2.2.2)], Item.box b1 [u1, (.int .i64 a1.2.1), (.int .i64 a1.2.2)]] := hC63.front 1 rfl
                        obtain ⟨Fs3, hH3, hn16, hF3, hO3, hb16⟩ := Ctx.lend2 (As := [Item.box b8 [v14, (.int .i64 x16), (.int .i64 x17)], Item.box b4 [(.int .i64 x5), (.int .i64 x6), (.int .i64 x7), (.bool x8)], Item.box b3 [v1, (.int .i64 x3), (.int .i64 x4)], Item.own v1 (x2 : (List Int)), Item.box b2 [(.int .i64 a2.1), (.int .i64 a2.2.1), (.int .i64 a2.2.2.1), (.bool a2.2.2.2)], Item.box b1 [u1, (.int .i64 a1.2.1), (.int .i64 a1.2.2)]]) [Item.own v14 (x15 : (List Int))] hC90
                        refine WL_call Try.call20 rfl rfl (c_Q_markLedger (x15, x16, x17) v14 1 hH3 hn16 x36 hr24) ?_
                        rintro _ w45 ⟨rfl, hq16⟩
                        have hC91 : Ctx [] w0 w45 [Item.own v14 (x36.2.1 : (List Int)), Item.box b8 [v14, (.int .i64 x16), (.int .i64 x17)], Item.box b4 [(.int .i64 x5), (.int .i64 x6), (.int .i64 x7), (.bool x8)], Item.box b3 [v1, (.int .i64 x3), (.int .i64 x4)], Item.own v1 (x2 : (List Int)), Item.box b2 [(.int .i64 a2.1), (.int .i64 a2.2.1), (.int .i64 a2.2.2.1), (.bool a2.2.2.2)], Item.box b1 [u1, (.int .i64 a1.2.1), (.int .i64 a1.2.2)]] := hb16 _ _ hq16
                        refine WL_assign rfl rfl ?_
                        refine WL_nil ?_
                        refine W_seq_reg ?_
                        refine WL_assign rfl rfl ?_
                        refine WL_nil ?_
                        refine W_seq_reg ?_
                        refine WL_load_box_agg [v14, (.int .i64 x16), (.int .i64 x17)] hC91 1 rfl rfl rfl Try.isAgg26 Try.sizeOf26 rfl rfl ?_
                        refine WL_move rfl rfl ?_
                        obtain ⟨x37, hr25, hF⟩ := bind_some hF
                        refine WL_call Try.call21 rfl rfl (c_Q_heldLedger (x36.2.1, x16, x17) v14 ((hC91.ro 0 rfl).now (Keep.refl _ _)) 1 x37 hr25) ?_
                        intro _ w46 hv24
                        obtain ⟨rfl, hB38⟩ := res_int hv24
                        have hC92 := hC91.grow hB38
                        refine WL_assign rfl rfl ?_
                        refine WL_nil ?_
                        refine W_seq ?_
                        refine W_seq_reg ?_
                        refine WL_move rfl rfl ?_
                        refine WL_lss rfl rfl rfl ?_
                        refine WL_nil ?_
                        refine W_cond rfl (fun hc10 => ?_) (fun hc10 => ?_)
                        · replace hF := ite_t hF hc10
                          refine W_seq_reg ?_
                          refine WL_assign rfl rfl ?_
                          refine WL_nil ?_
                          refine W_ret ?_
                          refine nrm_ret ?_
                          have hq17 := Option.some.inj hF
                          subst hq17
                          refine fn_ret1 rfl rfl ?_
                          exact ⟨_, rfl, bool_res hC92 _⟩
                        · replace hF := ite_f hF hc10
                          refine W_skip ?_
                          refine nrm_normal ?_
                          refine W_seq ?_
                          refine W_seq_reg ?_
                          refine WL_move rfl rfl ?_
                          refine WL_move rfl rfl ?_
                          refine WL_neq rfl rfl rfl ?_
                          refine WL_nil ?_
                          refine W_cond rfl (fun hc11 => ?_) (fun hc11 => ?_)
                          · replace hF := ite_t hF hc11
                            refine W_seq_reg ?_
                            refine WL_assign rfl rfl ?_
                            refine WL_nil ?_
                            refine W_ret ?_
                            refine nrm_ret ?_
                            have hq18 := Option.some.inj hF
                            subst hq18
                            refine fn_ret1 rfl rfl ?_
                            exact ⟨_, rfl, bool_res hC92 _⟩
                          · replace hF := ite_f hF hc11
                            refine W_skip ?_
                            refine nrm_normal ?_
                            obtain ⟨r5, hr26, hF⟩ := bind_some hF
                            refine W_cut (fun l w => ∃ b12 : Nat, ∃ v24 : Value, ∃ x38 : (List Int), ∃ x39 : Int, ∃ x40 : Int, ∃ b13 : Nat, ∃ x41 : Int, ∃ x42 : Int, ∃ x43 : Int, ∃ x44 : Bool, (x38, x39, x40, x41, x42, x43, x44) = r5 ∧ l = [(8, (ptr b3 0)), (9, (ptr b4 0)), (12, (ptr b8 0)), (15, (.int .i64 x36.1)), (17, (ptr b12 0)), (18, (ptr b13 0))] ∧ Ctx [] w0 w [Item.box b13 [(.int .i64 x41), (.int .i64 x42), (.int .i64 x43), (.bool x44)], Item.box b12 [v24, (.int .i64 x39), (.int .i64 x40)], Item.own v24 (x38 : (List Int)), Item.own v14 (x36.2.1 : (List Int)), Item.box b8 [v14, (.int .i64 x16), (.int .i64 x17)], Item.box b4 [(.int .i64 x5), (.int .i64 x6), (.int .i64 x7), (.bool x8)], Item.box b3 [v1, (.int .i64 x3), (.int .i64 x4)], Item.own v1 (x2 : (List Int))]) ?_ ?_
                            · refine W_drawn 14 rfl hmix (fun w48 hB40 => ?_)
                              have hC94 := hC92.grow hB40
                              refine WA_take 4 rfl (by kernel_rfl) (by kernel_rfl) (by kernel_rfl) rfl (fl_move rfl) ?_
                              refine WL_move rfl rfl ?_
                              refine WL_nil ?_
                              obtain ⟨x45, hr27, hr26⟩ := bind_some hr26
                              obtain ⟨x46, hr28, hr26⟩ := bind_some hr26
                              obtain ⟨x47, hr29, hr26⟩ := bind_some hr26
                              obtain ⟨x48, hr30, hr26⟩ := bind_some hr26
                              refine WA.sub (l' := [(2, u2), (3, (ptr b1 0)), (4, (ptr b2 0)), (8, (ptr b3 0)), (9, (ptr b4 0)), (12, (ptr b8 0)), (15, (.int .i64 x36.1)), (16, (.int .i64 x37)), (88, (.bool x33)), (89, (.agg #[v14, (.int .i64 x16), (.int .i64 x17)])), (90, (.int .i64 1)), (91, (.int .i64 x36.1)), (92, (.agg #[v14, (.int .i64 x16), (.int .i64 x17)])), (93, (.int .i64 1)), (94, (.int .i64 x37)), (95, (.int .i64 x37)), (96, (.bool (decide (x37 < 0)))), (97, (.int .i64 x37)), (98, (.int .i64 x36.1)), (99, (.bool (!decide (x37 = x36.1)))), (105, u2)]) ?_ ⟨rfl, rfl, rfl, rfl, rfl, rfl, rfl, rfl, rfl, rfl, rfl, rfl, rfl, rfl, rfl, rfl, rfl, rfl, rfl, rfl, rfl, trivial⟩
                              refine WA_postsO [⟨0, [], fun vs => PW.val (.agg #[u1, (.int .i64 a1.2.1), (.int .i64 a1.2.2)]), []⟩, ⟨1, [], fun vs => PW.own x45, []⟩, ⟨2, [], fun vs => PW.val (.agg #[(.int .i64 a2.1), (.int .i64 a2.2.1), (.int .i64 a2.2.2.1), (.bool a2.2.2.2)]), []⟩, ⟨3, [], fun vs => PW.val (.agg #[(.int .i64 x46.1), (.int .i64 x46.2.1), (.int .i64 x46.2.2.1), (.bool x46.2.2.2)]), []⟩, ⟨5, [], fun vs => PW.own x47, []⟩, ⟨6, [], fun vs => PW.own2 (x48.1 : ((List Int) × Int × Int)) (x48.2 : (Int × Int × Int × Bool)), []⟩, ⟨7, [107], fun vs => PW.val (vs.getD 0 undef), []⟩, ⟨8, [100], fun vs => PW.comp (vs.getD 0 undef) 0, []⟩, ⟨9, [100], fun vs => PW.comp (vs.getD 0 undef) 1, []⟩, ⟨10, [], fun vs => PW.box [(.slice none 0 0), (.int .i64 0), (.int .i64 0)], []⟩, ⟨11, [], fun vs => PW.box [(.int .i64 0), (.int .i64 0), (.int .i64 0), (.bool false)], []⟩] [[], [0], [], [2], [], [1, 3, 5], [6], [6, 7], [6, 7], [], []] [9] 2 rfl (by kernel_rfl) (by kernel_rfl) ?_ ⟨?_, ?_, trivial⟩
                              · refine StepsE_cons rfl ?_ ?_
                                · intro w55 hB47
                                  refine DepsE_nil ?_
                                  refine ⟨_, rfl, ?_⟩
                                  refine WL_load_box_agg [u1, (.int .i64 a1.2.1), (.int .i64 a1.2.2)] (hC94.grow hB47) 6 rfl rfl rfl Try.isAgg24 Try.sizeOf24 rfl rfl ?_
                                  refine WL_nil ?_
                                  exact FinE_val (Below.refl _ _) rfl rfl ⟨rfl, rfl⟩
                                refine StepsE_cons rfl ?_ ?_
                                · intro w55 hB47
                                  refine DepsE_cons rfl rfl rfl ?_
                                  rintro _ _ ⟨rfl, rfl⟩ _
                                  refine DepsE_nil ?_
                                  refine ⟨_, rfl, ?_⟩
                                  refine WL_call Try.call17 rfl rfl (c_Q_toLedger (a1.1, a1.2.1, a1.2.2) u1 (g1.now (hC94.keep.then hB47)) x45 hr27) ?_
                                  rintro v25 w49 ⟨hB41, F17, hv25, hn17, hb17⟩
                                  refine WL_nil ?_
                                  exact FinE_own hB41 rfl rfl hv25 hn17 hb17 (Val.inh hv25)
                                refine StepsE_cons rfl ?_ ?_
                                · intro w55 hB47
                                  refine DepsE_nil ?_
                                  refine ⟨_, rfl, ?_⟩
                                  refine WL_load_box_agg [(.int .i64 a2.1), (.int .i64 a2.2.1), (.int .i64 a2.2.2.1), (.bool a2.2.2.2)] (hC94.grow hB47) 5 rfl rfl rfl Try.isAgg34 Try.sizeOf34 rfl rfl ?_
                                  refine WL_nil ?_
                                  exact FinE_val (Below.refl _ _) rfl rfl ⟨rfl, rfl⟩
                                refine StepsE_cons rfl ?_ ?_
                                · intro w55 hB47
                                  refine DepsE_cons rfl rfl rfl ?_
                                  rintro _ _ ⟨rfl, rfl⟩ _
                                  refine DepsE_nil ?_
                                  refine ⟨_, rfl, ?_⟩
                                  refine WL_call Try.call23 rfl rfl (c_Q_toCall (a2.1, a2.2.1, a2.2.2.1, a2.2.2.2) x46 hr28) ?_
                                  rintro v27 w50 ⟨hB42, F18, hv26, hn18, hb18⟩
                                  obtain rfl := ro_st35 (D := []) ⟨F18, Val.weak hv26, by simp⟩
                                  refine WL_nil ?_
                                  exact FinE_val hB42 rfl rfl ⟨rfl, rfl⟩
                                refine StepsE_cons rfl ?_ ?_
                                · intro w55 hB47
                                  refine DepsE_nil ?_
                                  refine ⟨_, rfl, ?_⟩
                                  refine WL_call Try.call37 rfl rfl (c_Q_toIntS a3 u2 (g2.now (hC94.keep.then hB47)) x47 hr29) ?_
                                  rintro v28 w51 ⟨hB43, F19, hv27, hn19, hb19⟩
                                  refine WL_nil ?_
                                  exact FinE_own hB43 rfl rfl hv27 hn19 hb19 (Val.inh hv27)
                                refine StepsE_cons rfl ?_ ?_
                                · intro w55 hB47
                                  refine DepsE_cons rfl rfl rfl ?_
                                  intro v25 F17 hv25 _
                                  obtain ⟨v26, rfl, h5⟩ := ro_st26 (ro_of_own hv25)
                                  refine DepsE_cons rfl rfl rfl ?_
                                  rintro _ _ ⟨rfl, rfl⟩ _
                                  refine DepsE_cons rfl rfl rfl ?_
                                  intro v28 F19 hv27 _
                                  refine DepsE_nil ?_
                                  refine ⟨_, rfl, ?_⟩
                                  refine WL_call Try.call38 rfl rfl (c_M_FinishCall x45 v26 (h5.now (Keep.refl _ _)) x46 x47 v28 (ro_of_own hv27) x48 hr30) ?_
                                  rintro _ w52 ⟨hB44, v29, v30, F20, F21, rfl, hv28, hv29, hn20, hb20⟩
                                  refine WL_nil ?_
                                  exact FinE_own (F := F20 ++ F21) hB44 rfl rfl ⟨_, _, _, _, rfl, rfl, hv28, hv29⟩ (by simpa using hn20) (fun b h => hb20 b (by simpa using h)) (fun b h => by simp only [List.mem_append] at h; rcases h with h | h <;> first | exact Val.inh hv28 b h | exact Val.inh hv29 b h)
                                refine StepsE_cons rfl ?_ ?_
                                · intro w55 hB47
                                  refine DepsE_cons rfl rfl rfl ?_
                                  rintro _ _ ⟨v29, v30, F20, F21, rfl, rfl, hv28, hv29⟩ _
                                  obtain ⟨v31, rfl, h6⟩ := ro_st26 (ro_of_own hv28)
                                  obtain rfl := ro_st35 (ro_of_own hv29)
                                  refine DepsE_nil ?_
                                  refine ⟨_, rfl, ?_⟩
                                  refine WL_move rfl rfl ?_
                                  refine WL_nil ?_
                                  exact FinE_val (Below.refl _ _) rfl rfl ⟨rfl, rfl⟩
                                refine StepsE_cons rfl ?_ ?_
                                · intro w55 hB47
                                  refine DepsE_cons rfl rfl rfl ?_
                                  rintro _ _ ⟨v29, v30, F20, F21, rfl, rfl, hv28, hv29⟩ _
                                  obtain ⟨v31, rfl, h6⟩ := ro_st26 (ro_of_own hv28)
                                  obtain rfl := ro_st35 (ro_of_own hv29)
                                  refine DepsE_cons rfl rfl rfl ?_
                                  rintro _ _ ⟨rfl, rfl⟩ _
                                  refine DepsE_nil ?_
                                  refine ⟨_, rfl, ?_⟩
                                  refine WL_extract rfl rfl rfl ?_
                                  refine WL_nil ?_
                                  exact FinE_val (Below.refl _ _) rfl rfl ⟨⟨_, rfl, rfl⟩, rfl⟩
                                refine StepsE_cons rfl ?_ ?_
                                · intro w55 hB47
                                  refine DepsE_cons rfl rfl rfl ?_
                                  rintro _ _ ⟨v29, v30, F20, F21, rfl, rfl, hv28, hv29⟩ _
                                  obtain ⟨v31, rfl, h6⟩ := ro_st26 (ro_of_own hv28)
                                  obtain rfl := ro_st35 (ro_of_own hv29)
                                  refine DepsE_cons rfl rfl rfl ?_
                                  rintro _ _ ⟨rfl, rfl⟩ _
                                  refine DepsE_nil ?_
                                  refine ⟨_, rfl, ?_⟩
                                  refine WL_extract rfl rfl rfl ?_
                                  refine WL_nil ?_
                                  exact FinE_val (Below.refl _ _) rfl rfl ⟨⟨_, rfl, rfl⟩, rfl⟩
                                refine StepsE_cons rfl ?_ ?_
                                · intro w55 hB47
                                  refine DepsE_nil ?_
                                  refine ⟨_, rfl, ?_⟩
                                  refine WL_alloc (Ctx.start _) zero26 rfl rfl (fun b14 w53 hC95 hB45 => ?_)
                                  refine WL_nil ?_
                                  exact FinE_ctx hC95 rfl rfl (fun F h => ⟨b14, rfl, h⟩)
                                refine StepsE_cons rfl ?_ ?_
                                · intro w55 hB47
                                  refine DepsE_nil ?_
                                  refine ⟨_, rfl, ?_⟩
                                  refine WL_alloc (Ctx.start _) zero35 rfl rfl (fun b15 w54 hC96 hB46 => ?_)
                                  refine WL_nil ?_
                                  exact FinE_ctx hC96 rfl rfl (fun F h => ⟨b15, rfl, h⟩)
                                exact StepsE_nil
                              · intro g' hg'
                                obtain rfl : g' = 2 := hg'
                                intro w56 hB48
                                refine AllE_cons rfl rfl rfl ?_
                                rintro _ _ ⟨rfl, rfl⟩
                                refine AllE_cons rfl rfl rfl ?_
                                intro v25 F17 hv25
                                refine AllE_cons rfl rfl rfl ?_
                                rintro _ _ ⟨rfl, rfl⟩
                                refine AllE_cons rfl rfl rfl ?_
                                rintro _ _ ⟨rfl, rfl⟩
                                refine AllE_cons rfl rfl rfl ?_
                                intro v28 F19 hv27
                                refine AllE_cons rfl rfl rfl ?_
                                rintro _ _ ⟨v29, v30, F20, F21, rfl, rfl, hv28, hv29⟩
                                refine AllE_cons rfl rfl rfl ?_
                                rintro _ _ ⟨rfl, rfl⟩
                                refine AllE_cons rfl rfl rfl ?_
                                rintro _ _ ⟨⟨_, hx9, hx10⟩, rfl⟩
                                obtain rfl := Value.tuple.inj hx9
                                obtain rfl := Option.some.inj (show (some v29 : Option Value) = some _ from hx10)
                                refine AllE_cons rfl rfl rfl ?_
                                rintro _ _ ⟨⟨_, hx11, hx12⟩, rfl⟩
                                obtain rfl := Value.tuple.inj hx11
                                obtain rfl := Option.some.inj (show (some v30 : Option Value) = some _ from hx12)
                                refine AllE_cons rfl rfl rfl ?_
                                rintro _ F22 ⟨b14, rfl, hv30⟩
                                refine AllE_cons rfl rfl rfl ?_
                                rintro _ F23 ⟨b15, rfl, hv31⟩
                                refine AllE_nil ?_
                                intro hn21 hb21
                                have hC97 := hC94.pushL hB48 (Bs := [Item.box b15 [(.int .i64 0), (.int .i64 0), (.int .i64 0), (.bool false)], Item.box b14 [(.slice none 0 0), (.int .i64 0), (.int .i64 0)], Item.own v29 (x48.1 : ((List Int) × Int × Int)), Item.own v30 (x48.2 : (Int × Int × Int × Bool)), Item.own v28 (x47 : (List Int)), Item.own v25 (x45 : ((List Int) × Int × Int))]) (Fs := [F23, F22, F20, F21, F19, F17]) ⟨F23, _, rfl, hv31, F22, _, rfl, hv30, F20, _, rfl, hv28, F21, _, rfl, hv29, F19, _, rfl, hv27, F17, _, rfl, hv25, rfl⟩ (by simpa using hn21) (fun b h => (hb21 b (by simpa using h)).1)
                                have hC98 : Ctx [] w0 _ [Item.own v25 (x45 : ((List Int) × Int × Int)), Item.box b15 [(.int .i64 0), (.int .i64 0), (.int .i64 0), (.bool false)], Item.box b14 [(.slice none 0 0), (.int .i64 0), (.int .i64 0)], Item.own v29 (x48.1 : ((List Int) × Int × Int)), Item.own v30 (x48.2 : (Int × Int × Int × Bool)), Item.own v28 (x47 : (List Int)), Item.own v14 (x36.2.1 : (List Int)), Item.box b8 [v14, (.int .i64 x16), (.int .i64 x17)], Item.box b4 [(.int .i64 x5), (.int .i64 x6), (.int .i64 x7), (.bool x8)], Item.box b3 [v1, (.int .i64 x3), (.int .i64 x4)], Item.own v1 (x2 : (List Int)), Item.box b2 [(.int .i64 a2.1), (.int .i64 a2.2.1), (.int .i64 a2.2.2.1), (.bool a2.2.2.2)], Item.box b1 [u1, (.int .i64 a1.2.1), (.int .i64 a1.2.2)]] := hC97.front 5 rfl
                                obtain ⟨v32, rfl, hC99⟩ := st26_own hC98
                                have hC100 : Ctx [] w0 _ [Item.own v29 (x48.1 : ((List Int) × Int × Int)), Item.own v32 (x45.1 : (List Int)), Item.box b15 [(.int .i64 0), (.int .i64 0), (.int .i64 0), (.bool false)], Item.box b14 [(.slice none 0 0), (.int .i64 0), (.int .i64 0)], Item.own v30 (x48.2 : (Int × Int × Int × Bool)), Item.own v28 (x47 : (List Int)), Item.own v14 (x36.2.1 : (List Int)), Item.box b8 [v14, (.int .i64 x16), (.int .i64 x17)], Item.box b4 [(.int .i64 x5), (.int .i64 x6), (.int .i64 x7), (.bool x8)], Item.box b3 [v1, (.int .i64 x3), (.int .i64 x4)], Item.own v1 (x2 : (List Int)), Item.box b2 [(.int .i64 a2.1), (.int .i64 a2.2.1), (.int .i64 a2.2.2.1), (.bool a2.2.2.2)], Item.box b1 [u1, (.int .i64 a1.2.1), (.int .i64 a1.2.2)]] := hC99.front 3 rfl
                                obtain ⟨v33, rfl, hC101⟩ := st26_own hC100
                                have hC102 : Ctx [] w0 _ [Item.own v30 (x48.2 : (Int × Int × Int × Bool)), Item.own v33 (x48.1.1 : (List Int)), Item.own v32 (x45.1 : (List Int)), Item.box b15 [(.int .i64 0), (.int .i64 0), (.int .i64 0), (.bool false)], Item.box b14 [(.slice none 0 0), (.int .i64 0), (.int .i64 0)], Item.own v28 (x47 : (List Int)), Item.own v14 (x36.2.1 : (List Int)), Item.box b8 [v14, (.int .i64 x16), (.int .i64 x17)], Item.box b4 [(.int .i64 x5), (.int .i64 x6), (.int .i64 x7), (.bool x8)], Item.box b3 [v1, (.int .i64 x3), (.int .i64 x4)], Item.own v1 (x2 : (List Int)), Item.box b2 [(.int .i64 a2.1), (.int .i64 a2.2.1), (.int .i64 a2.2.2.1), (.bool a2.2.2.2)], Item.box b1 [u1, (.int .i64 a1.2.1), (.int .i64 a1.2.2)]] := hC101.front 4 rfl
                                obtain ⟨rfl, hC103⟩ := st35_own hC102
                                refine WA_one 12 (by kernel_rfl) rfl ?_
                                refine WL_store_box_agg (cs' := [v33, (.int .i64 x48.1.2.1), (.int .i64 x48.1.2.2)]) (new := [v33, (.int .i64 x48.1.2.1), (.int .i64 x48.1.2.2)]) hC103 3 rfl rfl (by intro v hv; simp only [List.mem_cons, List.not_mem_nil, or_false] at hv; rcases hv with rfl | rfl | rfl; exact (ro_one (hC103.ro 0 rfl)); exact rfl; exact rfl) rfl Try.sizeOf26 rfl rfl (fun w57 hC104 => ?_)
                                try dsimp only [List.set] at hC104
                                refine WL_nil ?_
                                refine WA_one 13 (by kernel_rfl) rfl ?_
                                refine WL_store_box_agg (cs' := [(.int .i64 x48.2.1), (.int .i64 x48.2.2.1), (.int .i64 x48.2.2.2.1), (.bool x48.2.2.2.2)]) (new := [(.int .i64 x48.2.1), (.int .i64 x48.2.2.1), (.int .i64 x48.2.2.2.1), (.bool x48.2.2.2.2)]) hC104 2 rfl rfl (by intro v hv; simp only [List.mem_cons, List.not_mem_nil, or_false] at hv; rcases hv with rfl | rfl | rfl | rfl; exact rfl; exact rfl; exact rfl; exact rfl) rfl Try.sizeOf35 rfl rfl (fun w58 hC105 => ?_)
                                try dsimp only [List.set] at hC105
                                refine WL_nil ?_
                                refine WA_done (by kernel_rfl) ?_
                                have hq19 := Option.some.inj hr26
                                subst hq19
                                have hC106 : Ctx [] w0 _ [Item.own v1 (x2 : (List Int)), Item.own v33 (x48.1.1 : (List Int)), Item.own v32 (x45.1 : (List Int)), Item.box b15 [(.int .i64 x48.2.1), (.int .i64 x48.2.2.1), (.int .i64 x48.2.2.2.1), (.bool x48.2.2.2.2)], Item.box b14 [v33, (.int .i64 x48.1.2.1), (.int .i64 x48.1.2.2)], Item.own v28 (x47 : (List Int)), Item.own v14 (x36.2.1 : (List Int)), Item.box b8 [v14, (.int .i64 x16), (.int .i64 x17)], Item.box b4 [(.int .i64 x5), (.int .i64 x6), (.int .i64 x7), (.bool x8)], Item.box b3 [v1, (.int .i64 x3), (.int .i64 x4)], Item.box b2 [(.int .i64 a2.1), (.int .i64 a2.2.1), (.int .i64 a2.2.2.1), (.bool a2.2.2.2)], Item.box b1 [u1, (.int .i64 a1.2.1), (.int .i64 a1.2.2)]] := hC105.front 9 rfl
                                have hC107 : Ctx [] w0 _ [Item.box b3 [v1, (.int .i64 x3), (.int .i64 x4)], Item.own v1 (x2 : (List Int)), Item.own v33 (x48.1.1 : (List Int)), Item.own v32 (x45.1 : (List Int)), Item.box b15 [(.int .i64 x48.2.1), (.int .i64 x48.2.2.1), (.int .i64 x48.2.2.2.1), (.bool x48.2.2.2.2)], Item.box b14 [v33, (.int .i64 x48.1.2.1), (.int .i64 x48.1.2.2)], Item.own v28 (x47 : (List Int)), Item.own v14 (x36.2.1 : (List Int)), Item.box b8 [v14, (.int .i64 x16), (.int .i64 x17)], Item.box b4 [(.int .i64 x5), (.int .i64 x6), (.int .i64 x7), (.bool x8)], Item.box b2 [(.int .i64 a2.1), (.int .i64 a2.2.1), (.int .i64 a2.2.2.1), (.bool a2.2.2.2)], Item.box b1 [u1, (.int .i64 a1.2.1), (.int .i64 a1.2.2)]] := hC106.front 9 rfl
                                have hC108 : Ctx [] w0 _ [Item.box b4 [(.int .i64 x5), (.int .i64 x6), (.int .i64 x7), (.bool x8)], Item.box b3 [v1, (.int .i64 x3), (.int .i64 x4)], Item.own v1 (x2 : (List Int)), Item.own v33 (x48.1.1 : (List Int)), Item.own v32 (x45.1 : (List Int)), Item.box b15 [(.int .i64 x48.2.1), (.int .i64 x48.2.2.1), (.int .i64 x48.2.2.2.1), (.bool x48.2.2.2.2)], Item.box b14 [v33, (.int .i64 x48.1.2.1), (.int .i64 x48.1.2.2)], Item.own v28 (x47 : (List Int)), Item.own v14 (x36.2.1 : (List Int)), Item.box b8 [v14, (.int .i64 x16), (.int .i64 x17)], Item.box b2 [(.int .i64 a2.1), (.int .i64 a2.2.1), (.int .i64 a2.2.2.1), (.bool a2.2.2.2)], Item.box b1 [u1, (.int .i64 a1.2.1), (.int .i64 a1.2.2)]] := hC107.front 9 rfl
                                have hC109 : Ctx [] w0 _ [Item.box b8 [v14, (.int .i64 x16), (.int .i64 x17)], Item.box b4 [(.int .i64 x5), (.int .i64 x6), (.int .i64 x7), (.bool x8)], Item.box b3 [v1, (.int .i64 x3), (.int .i64 x4)], Item.own v1 (x2 : (List Int)), Item.own v33 (x48.1.1 : (List Int)), Item.own v32 (x45.1 : (List Int)), Item.box b15 [(.int .i64 x48.2.1), (.int .i64 x48.2.2.1), (.int .i64 x48.2.2.2.1), (.bool x48.2.2.2.2)], Item.box b14 [v33, (.int .i64 x48.1.2.1), (.int .i64 x48.1.2.2)], Item.own v28 (x47 : (List Int)), Item.own v14 (x36.2.1 : (List Int)), Item.box b2 [(.int .i64 a2.1), (.int .i64 a2.2.1), (.int .i64 a2.2.2.1), (.bool a2.2.2.2)], Item.box b1 [u1, (.int .i64 a1.2.1), (.int .i64 a1.2.2)]] := hC108.front 9 rfl
                                have hC110 : Ctx [] w0 _ [Item.own v14 (x36.2.1 : (List Int)), Item.box b8 [v14, (.int .i64 x16), (.int .i64 x17)], Item.box b4 [(.int .i64 x5), (.int .i64 x6), (.int .i64 x7), (.bool x8)], Item.box b3 [v1, (.int .i64 x3), (.int .i64 x4)], Item.own v1 (x2 : (List Int)), Item.own v33 (x48.1.1 : (List Int)), Item.own v32 (x45.1 : (List Int)), Item.box b15 [(.int .i64 x48.2.1), (.int .i64 x48.2.2.1), (.int .i64 x48.2.2.2.1), (.bool x48.2.2.2.2)], Item.box b14 [v33, (.int .i64 x48.1.2.1), (.int .i64 x48.1.2.2)], Item.own v28 (x47 : (List Int)), Item.box b2 [(.int .i64 a2.1), (.int .i64 a2.2.1), (.int .i64 a2.2.2.1), (.bool a2.2.2.2)], Item.box b1 [u1, (.int .i64 a1.2.1), (.int .i64 a1.2.2)]] := hC109.front 9 rfl
                                have hC111 : Ctx [] w0 _ [Item.own v33 (x48.1.1 : (List Int)), Item.own v14 (x36.2.1 : (List Int)), Item.box b8 [v14, (.int .i64 x16), (.int .i64 x17)], Item.box b4 [(.int .i64 x5), (.int .i64 x6), (.int .i64 x7), (.bool x8)], Item.box b3 [v1, (.int .i64 x3), (.int .i64 x4)], Item.own v1 (x2 : (List Int)), Item.own v32 (x45.1 : (List Int)), Item.box b15 [(.int .i64 x48.2.1), (.int .i64 x48.2.2.1), (.int .i64 x48.2.2.2.1), (.bool x48.2.2.2.2)], Item.box b14 [v33, (.int .i64 x48.1.2.1), (.int .i64 x48.1.2.2)], Item.own v28 (x47 : (List Int)), Item.box b2 [(.int .i64 a2.1), (.int .i64 a2.2.1), (.int .i64 a2.2.2.1), (.bool a2.2.2.2)], Item.box b1 [u1, (.int .i64 a1.2.1), (.int .i64 a1.2.2)]] := hC110.front 5 rfl
                                have hC112 : Ctx [] w0 _ [Item.box b14 [v33, (.int .i64 x48.1.2.1), (.int .i64 x48.1.2.2)], Item.own v33 (x48.1.1 : (List Int)), Item.own v14 (x36.2.1 : (List Int)), Item.box b8 [v14, (.int .i64 x16), (.int .i64 x17)], Item.box b4 [(.int .i64 x5), (.int .i64 x6), (.int .i64 x7), (.bool x8)], Item.box b3 [v1, (.int .i64 x3), (.int .i64 x4)], Item.own v1 (x2 : (List Int)), Item.own v32 (x45.1 : (List Int)), Item.box b15 [(.int .i64 x48.2.1), (.int .i64 x48.2.2.1), (.int .i64 x48.2.2.2.1), (.bool x48.2.2.2.2)], Item.own v28 (x47 : (List Int)), Item.box b2 [(.int .i64 a2.1), (.int .i64 a2.2.1), (.int .i64 a2.2.2.1), (.bool a2.2.2.2)], Item.box b1 [u1, (.int .i64 a1.2.1), (.int .i64 a1.2.2)]] := hC111.front 8 rfl
                                have hC113 : Ctx [] w0 _ [Item.box b15 [(.int .i64 x48.2.1), (.int .i64 x48.2.2.1), (.int .i64 x48.2.2.2.1), (.bool x48.2.2.2.2)], Item.box b14 [v33, (.int .i64 x48.1.2.1), (.int .i64 x48.1.2.2)], Item.own v33 (x48.1.1 : (List Int)), Item.own v14 (x36.2.1 : (List Int)), Item.box b8 [v14, (.int .i64 x16), (.int .i64 x17)], Item.box b4 [(.int .i64 x5), (.int .i64 x6), (.int .i64 x7), (.bool x8)], Item.box b3 [v1, (.int .i64 x3), (.int .i64 x4)], Item.own v1 (x2 : (List Int)), Item.own v32 (x45.1 : (List Int)), Item.own v28 (x47 : (List Int)), Item.box b2 [(.int .i64 a2.1), (.int .i64 a2.2.1), (.int .i64 a2.2.2.1), (.bool a2.2.2.2)], Item.box b1 [u1, (.int .i64 a1.2.1), (.int .i64 a1.2.2)]] := hC112.front 8 rfl
                                have hC114 : Ctx [] w0 _ [Item.box b15 [(.int .i64 x48.2.1), (.int .i64 x48.2.2.1), (.int .i64 x48.2.2.2.1), (.bool x48.2.2.2.2)], Item.box b14 [v33, (.int .i64 x48.1.2.1), (.int .i64 x48.1.2.2)], Item.own v33 (x48.1.1 : (List Int)), Item.own v14 (x36.2.1 : (List Int)), Item.box b8 [v14, (.int .i64 x16), (.int .i64 x17)], Item.box b4 [(.int .i64 x5), (.int .i64 x6), (.int .i64 x7), (.bool x8)], Item.box b3 [v1, (.int .i64 x3), (.int .i64 x4)], Item.own v1 (x2 : (List Int))] := hC113.headN 8
                                refine nrm_sub (l' := [(8, (ptr b3 0)), (9, (ptr b4 0)), (12, (ptr b8 0)), (15, (.int .i64 x36.1)), (17, (ptr b14 0)), (18, (ptr b15 0))]) ⟨rfl, rfl, rfl, rfl, rfl, rfl, trivial⟩ ?_
                                exact ⟨b14, v33, x48.1.1, x48.1.2.1, x48.1.2.2, b15, x48.2.1, x48.2.2.1, x48.2.2.2.1, x48.2.2.2.2, rfl, rfl, hC114⟩
                              · intro g' hg'
                                obtain rfl : g' = 3 := hg'
                                intro w56 hB48
                                refine AllE_cons rfl rfl rfl ?_
                                rintro _ _ ⟨rfl, rfl⟩
                                refine AllE_cons rfl rfl rfl ?_
                                intro v25 F17 hv25
                                refine AllE_cons rfl rfl rfl ?_
                                rintro _ _ ⟨rfl, rfl⟩
                                refine AllE_cons rfl rfl rfl ?_
                                rintro _ _ ⟨rfl, rfl⟩
                                refine AllE_cons rfl rfl rfl ?_
                                intro v28 F19 hv27
                                refine AllE_cons rfl rfl rfl ?_
                                rintro _ _ ⟨v29, v30, F20, F21, rfl, rfl, hv28, hv29⟩
                                refine AllE_cons rfl rfl rfl ?_
                                rintro _ _ ⟨rfl, rfl⟩
                                refine AllE_cons rfl rfl rfl ?_
                                rintro _ _ ⟨⟨_, hx9, hx10⟩, rfl⟩
                                obtain rfl := Value.tuple.inj hx9
                                obtain rfl := Option.some.inj (show (some v29 : Option Value) = some _ from hx10)
                                refine AllE_cons rfl rfl rfl ?_
                                rintro _ F22 ⟨b14, rfl, hv30⟩
                                refine AllE_cons rfl rfl rfl ?_
                                rintro _ F23 ⟨b15, rfl, hv31⟩
                                refine AllE_nil ?_
                                intro hn21 hb21
                                have hC97 := hC94.pushL hB48 (Bs := [Item.box b15 [(.int .i64 0), (.int .i64 0), (.int .i64 0), (.bool false)], Item.box b14 [(.slice none 0 0), (.int .i64 0), (.int .i64 0)], Item.own v29 (x48.1 : ((List Int) × Int × Int)), Item.own v30 (x48.2 : (Int × Int × Int × Bool)), Item.own v28 (x47 : (List Int)), Item.own v25 (x45 : ((List Int) × Int × Int))]) (Fs := [F23, F22, F20, F21, F19, F17]) ⟨F23, _, rfl, hv31, F22, _, rfl, hv30, F20, _, rfl, hv28, F21, _, rfl, hv29, F19, _, rfl, hv27, F17, _, rfl, hv25, rfl⟩ (by simpa using hn21) (fun b h => (hb21 b (by simpa using h)).1)
                                have hC98 : Ctx [] w0 _ [Item.own v25 (x45 : ((List Int) × Int × Int)), Item.box b15 [(.int .i64 0), (.int .i64 0), (.int .i64 0), (.bool false)], Item.box b14 [(.slice none 0 0), (.int .i64 0), (.int .i64 0)], Item.own v29 (x48.1 : ((List Int) × Int × Int)), Item.own v30 (x48.2 : (Int × Int × Int × Bool)), Item.own v28 (x47 : (List Int)), Item.own v14 (x36.2.1 : (List Int)), Item.box b8 [v14, (.int .i64 x16), (.int .i64 x17)], Item.box b4 [(.int .i64 x5), (.int .i64 x6), (.int .i64 x7), (.bool x8)], Item.box b3 [v1, (.int .i64 x3), (.int .i64 x4)], Item.own v1 (x2 : (List Int)), Item.box b2 [(.int .i64 a2.1), (.int .i64 a2.2.1), (.int .i64 a2.2.2.1), (.bool a2.2.2.2)], Item.box b1 [u1, (.int .i64 a1.2.1), (.int .i64 a1.2.2)]] := hC97.front 5 rfl
                                obtain ⟨v32, rfl, hC99⟩ := st26_own hC98
                                have hC100 : Ctx [] w0 _ [Item.own v29 (x48.1 : ((List Int) × Int × Int)), Item.own v32 (x45.1 : (List Int)), Item.box b15 [(.int .i64 0), (.int .i64 0), (.int .i64 0), (.bool false)], Item.box b14 [(.slice none 0 0), (.int .i64 0), (.int .i64 0)], Item.own v30 (x48.2 : (Int × Int × Int × Bool)), Item.own v28 (x47 : (List Int)), Item.own v14 (x36.2.1 : (List Int)), Item.box b8 [v14, (.int .i64 x16), (.int .i64 x17)], Item.box b4 [(.int .i64 x5), (.int .i64 x6), (.int .i64 x7), (.bool x8)], Item.box b3 [v1, (.int .i64 x3), (.int .i64 x4)], Item.own v1 (x2 : (List Int)), Item.box b2 [(.int .i64 a2.1), (.int .i64 a2.2.1), (.int .i64 a2.2.2.1), (.bool a2.2.2.2)], Item.box b1 [u1, (.int .i64 a1.2.1), (.int .i64 a1.2.2)]] := hC99.front 3 rfl
                                obtain ⟨v33, rfl, hC101⟩ := st26_own hC100
                                have hC102 : Ctx [] w0 _ [Item.own v30 (x48.2 : (Int × Int × Int × Bool)), Item.own v33 (x48.1.1 : (List Int)), Item.own v32 (x45.1 : (List Int)), Item.box b15 [(.int .i64 0), (.int .i64 0), (.int .i64 0), (.bool false)], Item.box b14 [(.slice none 0 0), (.int .i64 0), (.int .i64 0)], Item.own v28 (x47 : (List Int)), Item.own v14 (x36.2.1 : (List Int)), Item.box b8 [v14, (.int .i64 x16), (.int .i64 x17)], Item.box b4 [(.int .i64 x5), (.int .i64 x6), (.int .i64 x7), (.bool x8)], Item.box b3 [v1, (.int .i64 x3), (.int .i64 x4)], Item.own v1 (x2 : (List Int)), Item.box b2 [(.int .i64 a2.1), (.int .i64 a2.2.1), (.int .i64 a2.2.2.1), (.bool a2.2.2.2)], Item.box b1 [u1, (.int .i64 a1.2.1), (.int .i64 a1.2.2)]] := hC101.front 4 rfl
                                obtain ⟨rfl, hC103⟩ := st35_own hC102
                                refine WA_take 9 rfl (by kernel_rfl) (by kernel_rfl) (by kernel_rfl) rfl (fl_extract rfl rfl) ?_
                                refine WL_extract rfl rfl rfl ?_
                                refine WL_nil ?_
                                refine WA_one 12 (by kernel_rfl) rfl ?_
                                refine WL_store_box_agg (cs' := [v33, (.int .i64 x48.1.2.1), (.int .i64 x48.1.2.2)]) (new := [v33, (.int .i64 x48.1.2.1), (.int .i64 x48.1.2.2)]) hC103 3 rfl rfl (by intro v hv; simp only [List.mem_cons, List.not_mem_nil, or_false] at hv; rcases hv with rfl | rfl | rfl; exact (ro_one (hC103.ro 0 rfl)); exact rfl; exact rfl) rfl Try.sizeOf26 rfl rfl (fun w57 hC104 => ?_)
                                try dsimp only [List.set] at hC104
                                refine WL_nil ?_
                                refine WA_one 13 (by kernel_rfl) rfl ?_
                                refine WL_store_box_agg (cs' := [(.int .i64 x48.2.1), (.int .i64 x48.2.2.1), (.int .i64 x48.2.2.2.1), (.bool x48.2.2.2.2)]) (new := [(.int .i64 x48.2.1), (.int .i64 x48.2.2.1), (.int .i64 x48.2.2.2.1), (.bool x48.2.2.2.2)]) hC104 2 rfl rfl (by intro v hv; simp only [List.mem_cons, List.not_mem_nil, or_false] at hv; rcases hv with rfl | rfl | rfl | rfl; exact rfl; exact rfl; exact rfl; exact rfl) rfl Try.sizeOf35 rfl rfl (fun w58 hC105 => ?_)
                                try dsimp only [List.set] at hC105
                                refine WL_nil ?_
                                refine WA_done (by kernel_rfl) ?_
                                have hq19 := Option.some.inj hr26
                                subst hq19
                                have hC106 : Ctx [] w0 _ [Item.own v1 (x2 : (List Int)), Item.own v33 (x48.1.1 : (List Int)), Item.own v32 (x45.1 : (List Int)), Item.box b15 [(.int .i64 x48.2.1), (.int .i64 x48.2.2.1), (.int .i64 x48.2.2.2.1), (.bool x48.2.2.2.2)], Item.box b14 [v33, (.int .i64 x48.1.2.1), (.int .i64 x48.1.2.2)], Item.own v28 (x47 : (List Int)), Item.own v14 (x36.2.1 : (List Int)), Item.box b8 [v14, (.int .i64 x16), (.int .i64 x17)], Item.box b4 [(.int .i64 x5), (.int .i64 x6), (.int .i64 x7), (.bool x8)], Item.box b3 [v1, (.int .i64 x3), (.int .i64 x4)], Item.box b2 [(.int .i64 a2.1), (.int .i64 a2.2.1), (.int .i64 a2.2.2.1), (.bool a2.2.2.2)], Item.box b1 [u1, (.int .i64 a1.2.1), (.int .i64 a1.2.2)]] := hC105.front 9 rfl
                                have hC107 : Ctx [] w0 _ [Item.box b3 [v1, (.int .i64 x3), (.int .i64 x4)], Item.own v1 (x2 : (List Int)), Item.own v33 (x48.1.1 : (List Int)), Item.own v32 (x45.1 : (List Int)), Item.box b15 [(.int .i64 x48.2.1), (.int .i64 x48.2.2.1), (.int .i64 x48.2.2.2.1), (.bool x48.2.2.2.2)], Item.box b14 [v33, (.int .i64 x48.1.2.1), (.int .i64 x48.1.2.2)], Item.own v28 (x47 : (List Int)), Item.own v14 (x36.2.1 : (List Int)), Item.box b8 [v14, (.int .i64 x16), (.int .i64 x17)], Item.box b4 [(.int .i64 x5), (.int .i64 x6), (.int .i64 x7), (.bool x8)], Item.box b2 [(.int .i64 a2.1), (.int .i64 a2.2.1), (.int .i64 a2.2.2.1), (.bool a2.2.2.2)], Item.box b1 [u1, (.int .i64 a1.2.1), (.int .i64 a1.2.2)]] := hC106.front 9 rfl
                                have hC108 : Ctx [] w0 _ [Item.box b4 [(.int .i64 x5), (.int .i64 x6), (.int .i64 x7), (.bool x8)], Item.box b3 [v1, (.int .i64 x3), (.int .i64 x4)], Item.own v1 (x2 : (List Int)), Item.own v33 (x48.1.1 : (List Int)), Item.own v32 (x45.1 : (List Int)), Item.box b15 [(.int .i64 x48.2.1), (.int .i64 x48.2.2.1), (.int .i64 x48.2.2.2.1), (.bool x48.2.2.2.2)], Item.box b14 [v33, (.int .i64 x48.1.2.1), (.int .i64 x48.1.2.2)], Item.own v28 (x47 : (List Int)), Item.own v14 (x36.2.1 : (List Int)), Item.box b8 [v14, (.int .i64 x16), (.int .i64 x17)], Item.box b2 [(.int .i64 a2.1), (.int .i64 a2.2.1), (.int .i64 a2.2.2.1), (.bool a2.2.2.2)], Item.box b1 [u1, (.int .i64 a1.2.1), (.int .i64 a1.2.2)]] := hC107.front 9 rfl
                                have hC109 : Ctx [] w0 _ [Item.box b8 [v14, (.int .i64 x16), (.int .i64 x17)], Item.box b4 [(.int .i64 x5), (.int .i64 x6), (.int .i64 x7), (.bool x8)], Item.box b3 [v1, (.int .i64 x3), (.int .i64 x4)], Item.own v1 (x2 : (List Int)), Item.own v33 (x48.1.1 : (List Int)), Item.own v32 (x45.1 : (List Int)), Item.box b15 [(.int .i64 x48.2.1), (.int .i64 x48.2.2.1), (.int .i64 x48.2.2.2.1), (.bool x48.2.2.2.2)], Item.box b14 [v33, (.int .i64 x48.1.2.1), (.int .i64 x48.1.2.2)], Item.own v28 (x47 : (List Int)), Item.own v14 (x36.2.1 : (List Int)), Item.box b2 [(.int .i64 a2.1), (.int .i64 a2.2.1), (.int .i64 a2.2.2.1), (.bool a2.2.2.2)], Item.box b1 [u1, (.int .i64 a1.2.1), (.int .i64 a1.2.2)]] := hC108.front 9 rfl
                                have hC110 : Ctx [] w0 _ [Item.own v14 (x36.2.1 : (List Int)), Item.box b8 [v14, (.int .i64 x16), (.int .i64 x17)], Item.box b4 [(.int .i64 x5), (.int .i64 x6), (.int .i64 x7), (.bool x8)], Item.box b3 [v1, (.int .i64 x3), (.int .i64 x4)], Item.own v1 (x2 : (List Int)), Item.own v33 (x48.1.1 : (List Int)), Item.own v32 (x45.1 : (List Int)), Item.box b15 [(.int .i64 x48.2.1), (.int .i64 x48.2.2.1), (.int .i64 x48.2.2.2.1), (.bool x48.2.2.2.2)], Item.box b14 [v33, (.int .i64 x48.1.2.1), (.int .i64 x48.1.2.2)], Item.own v28 (x47 : (List Int)), Item.box b2 [(.int .i64 a2.1), (.int .i64 a2.2.1), (.int .i64 a2.2.2.1), (.bool a2.2.2.2)], Item.box b1 [u1, (.int .i64 a1.2.1), (.int .i64 a1.2.2)]] := hC109.front 9 rfl
                                have hC111 : Ctx [] w0 _ [Item.own v33 (x48.1.1 : (List Int)), Item.own v14 (x36.2.1 : (List Int)), Item.box b8 [v14, (.int .i64 x16), (.int .i64 x17)], Item.box b4 [(.int .i64 x5), (.int .i64 x6), (.int .i64 x7), (.bool x8)], Item.box b3 [v1, (.int .i64 x3), (.int .i64 x4)], Item.own v1 (x2 : (List Int)), Item.own v32 (x45.1 : (List Int)), Item.box b15 [(.int .i64 x48.2.1), (.int .i64 x48.2.2.1), (.int .i64 x48.2.2.2.1), (.bool x48.2.2.2.2)], Item.box b14 [v33, (.int .i64 x48.1.2.1), (.int .i64 x48.1.2.2)], Item.own v28 (x47 : (List Int)), Item.box b2 [(.int .i64 a2.1), (.int .i64 a2.2.1), (.int .i64 a2.2.2.1), (.bool a2.2.2.2)], Item.box b1 [u1, (.int .i64 a1.2.1), (.int .i64 a1.2.2)]] := hC110.front 5 rfl
                                have hC112 : Ctx [] w0 _ [Item.box b14 [v33, (.int .i64 x48.1.2.1), (.int .i64 x48.1.2.2)], Item.own v33 (x48.1.1 : (List Int)), Item.own v14 (x36.2.1 : (List Int)), Item.box b8 [v14, (.int .i64 x16), (.int .i64 x17)], Item.box b4 [(.int .i64 x5), (.int .i64 x6), (.int .i64 x7), (.bool x8)], Item.box b3 [v1, (.int .i64 x3), (.int .i64 x4)], Item.own v1 (x2 : (List Int)), Item.own v32 (x45.1 : (List Int)), Item.box b15 [(.int .i64 x48.2.1), (.int .i64 x48.2.2.1), (.int .i64 x48.2.2.2.1), (.bool x48.2.2.2.2)], Item.own v28 (x47 : (List Int)), Item.box b2 [(.int .i64 a2.1), (.int .i64 a2.2.1), (.int .i64 a2.2.2.1), (.bool a2.2.2.2)], Item.box b1 [u1, (.int .i64 a1.2.1), (.int .i64 a1.2.2)]] := hC111.front 8 rfl
                                have hC113 : Ctx [] w0 _ [Item.box b15 [(.int .i64 x48.2.1), (.int .i64 x48.2.2.1), (.int .i64 x48.2.2.2.1), (.bool x48.2.2.2.2)], Item.box b14 [v33, (.int .i64 x48.1.2.1), (.int .i64 x48.1.2.2)], Item.own v33 (x48.1.1 : (List Int)), Item.own v14 (x36.2.1 : (List Int)), Item.box b8 [v14, (.int .i64 x16), (.int .i64 x17)], Item.box b4 [(.int .i64 x5), (.int .i64 x6), (.int .i64 x7), (.bool x8)], Item.box b3 [v1, (.int .i64 x3), (.int .i64 x4)], Item.own v1 (x2 : (List Int)), Item.own v32 (x45.1 : (List Int)), Item.own v28 (x47 : (List Int)), Item.box b2 [(.int .i64 a2.1), (.int .i64 a2.2.1), (.int .i64 a2.2.2.1), (.bool a2.2.2.2)], Item.box b1 [u1, (.int .i64 a1.2.1), (.int .i64 a1.2.2)]] := hC112.front 8 rfl
                                have hC114 : Ctx [] w0 _ [Item.box b15 [(.int .i64 x48.2.1), (.int .i64 x48.2.2.1), (.int .i64 x48.2.2.2.1), (.bool x48.2.2.2.2)], Item.box b14 [v33, (.int .i64 x48.1.2.1), (.int .i64 x48.1.2.2)], Item.own v33 (x48.1.1 : (List Int)), Item.own v14 (x36.2.1 : (List Int)), Item.box b8 [v14, (.int .i64 x16), (.int .i64 x17)], Item.box b4 [(.int .i64 x5), (.int .i64 x6), (.int .i64 x7), (.bool x8)], Item.box b3 [v1, (.int .i64 x3), (.int .i64 x4)], Item.own v1 (x2 : (List Int))] := hC113.headN 8
                                refine nrm_sub (l' := [(8, (ptr b3 0)), (9, (ptr b4 0)), (12, (ptr b8 0)), (15, (.int .i64 x36.1)), (17, (ptr b14 0)), (18, (ptr b15 0))]) ⟨rfl, rfl, rfl, rfl, rfl, rfl, trivial⟩ ?_
                                exact ⟨b14, v33, x48.1.1, x48.1.2.1, x48.1.2.2, b15, x48.2.1, x48.2.2.1, x48.2.2.2.1, x48.2.2.2.2, rfl, rfl, hC114⟩
                            · rintro _ w47 ⟨b12, v24, x38, x39, x40, b13, x41, x42, x43, x44, rfl, rfl, hC93⟩
                              try dsimp only at hF
                              refine W_seq ?_
                              obtain ⟨r6, hr31, hF⟩ := bind_some hF
                              refine W_cut (fun l w => ∃ x49 : Bool, x49 = r6 ∧ l = [(12, (ptr b8 0)), (15, (.int .i64 x36.1)), (119, (.bool x49))] ∧ Below w47.heap.size w47 w ∧ Ctx [] w0 w [Item.own v14 (x36.2.1 : (List Int)), Item.box b8 [v14, (.int .i64 x16), (.int .i64 x17)]]) ?_ ?_
                              · refine W_reg ?_
                                refine WL_load_box_agg [v24, (.int .i64 x39), (.int .i64 x40)] hC93 1 rfl rfl rfl Try.isAgg26 Try.sizeOf26 rfl rfl ?_
                                refine WL_load_box_agg [v1, (.int .i64 x3), (.int .i64 x4)] hC93 6 rfl rfl rfl Try.isAgg26 Try.sizeOf26 rfl rfl ?_
                                obtain ⟨x50, hr32, hr31⟩ := bind_some hr31
                                refine WL_call Try.call19 rfl rfl (c_Q_eqLedger (x38, x39, x40) v24 ((hC93.ro 2 rfl).now (Keep.refl _ _)) (x2, x3, x4) v1 ((hC93.ro 7 rfl).now (Keep.refl _ _)) x50 hr32) ?_
                                intro _ w60 hv32
                                obtain ⟨rfl, hB50⟩ := res_bool hv32
                                have hC116 := hC93.grow hB50
                                refine WL_not rfl rfl ?_
                                refine WL_move rfl rfl ?_
                                refine WL_fork (fun hc12 => ?_) (fun hc12 => ?_)
                                · replace hr31 := ite_t hr31 hc12
                                  refine WL_guard_skip rfl rfl (by simp) rfl ?_
                                  refine WL_guard_skip rfl rfl (by simp) rfl ?_
                                  refine WL_guard_skip rfl rfl (by simp) rfl ?_
                                  refine WL_guard_skip rfl rfl (by simp) rfl ?_
                                  refine WL_pick_t rfl rfl rfl ?_
                                  refine WL_nil ?_
                                  have hq20 := Option.some.inj hr31
                                  subst hq20
                                  have hC117 : Ctx [] w0 _ [Item.box b8 [v14, (.int .i64 x16), (.int .i64 x17)], Item.box b13 [(.int .i64 x41), (.int .i64 x42), (.int .i64 x43), (.bool x44)], Item.box b12 [v24, (.int .i64 x39), (.int .i64 x40)], Item.own v24 (x38 : (List Int)), Item.own v14 (x36.2.1 : (List Int)), Item.box b4 [(.int .i64 x5), (.int .i64 x6), (.int .i64 x7), (.bool x8)], Item.box b3 [v1, (.int .i64 x3), (.int .i64 x4)], Item.own v1 (x2 : (List Int))] := hC116.front 4 rfl
                                  have hC118 : Ctx [] w0 _ [Item.own v14 (x36.2.1 : (List Int)), Item.box b8 [v14, (.int .i64 x16), (.int .i64 x17)], Item.box b13 [(.int .i64 x41), (.int .i64 x42), (.int .i64 x43), (.bool x44)], Item.box b12 [v24, (.int .i64 x39), (.int .i64 x40)], Item.own v24 (x38 : (List Int)), Item.box b4 [(.int .i64 x5), (.int .i64 x6), (.int .i64 x7), (.bool x8)], Item.box b3 [v1, (.int .i64 x3), (.int .i64 x4)], Item.own v1 (x2 : (List Int))] := hC117.front 4 rfl
                                  have hC119 : Ctx [] w0 _ [Item.own v14 (x36.2.1 : (List Int)), Item.box b8 [v14, (.int .i64 x16), (.int .i64 x17)]] := hC118.headN 2
                                  refine nrm_sub (l' := [(12, (ptr b8 0)), (15, (.int .i64 x36.1)), (119, (.bool true))]) ⟨rfl, rfl, rfl, trivial⟩ ?_
                                  exact ⟨true, rfl, rfl, (Keep.of hB50).below, hC119⟩
                                · replace hr31 := ite_f hr31 hc12
                                  refine WL_guard rfl rfl ?_
                                  refine WL_load_box_agg [(.int .i64 x41), (.int .i64 x42), (.int .i64 x43), (.bool x44)] hC116 0 rfl rfl rfl Try.isAgg35 Try.sizeOf35 rfl rfl ?_
                                  refine WL_guard rfl rfl ?_
                                  refine WL_load_box_agg [(.int .i64 x5), (.int .i64 x6), (.int .i64 x7), (.bool x8)] hC116 5 rfl rfl rfl Try.isAgg35 Try.sizeOf35 rfl rfl ?_
                                  obtain ⟨x51, hr33, hr31⟩ := bind_some hr31
                                  refine WL_guard rfl rfl ?_
                                  refine WL_call Try.call25 rfl rfl (c_Q_eqCall (x41, x42, x43, x44) (x5, x6, x7, x8) x51 hr33) ?_
                                  intro _ w61 hv33
                                  obtain ⟨rfl, hB51⟩ := res_bool hv33
                                  have hC120 := hC116.grow hB51
                                  refine WL_guard rfl rfl ?_
                                  refine WL_not rfl rfl ?_
                                  refine WL_pick_f rfl rfl rfl ?_
                                  refine WL_nil ?_
                                  have hq21 := Option.some.inj hr31
                                  subst hq21
                                  have hC121 : Ctx [] w0 _ [Item.box b8 [v14, (.int .i64 x16), (.int .i64 x17)], Item.box b13 [(.int .i64 x41), (.int .i64 x42), (.int .i64 x43), (.bool x44)], Item.box b12 [v24, (.int .i64 x39), (.int .i64 x40)], Item.own v24 (x38 : (List Int)), Item.own v14 (x36.2.1 : (List Int)), Item.box b4 [(.int .i64 x5), (.int .i64 x6), (.int .i64 x7), (.bool x8)], Item.box b3 [v1, (.int .i64 x3), (.int .i64 x4)], Item.own v1 (x2 : (List Int))] := hC120.front 4 rfl
                                  have hC122 : Ctx [] w0 _ [Item.own v14 (x36.2.1 : (List Int)), Item.box b8 [v14, (.int .i64 x16), (.int .i64 x17)], Item.box b13 [(.int .i64 x41), (.int .i64 x42), (.int .i64 x43), (.bool x44)], Item.box b12 [v24, (.int .i64 x39), (.int .i64 x40)], Item.own v24 (x38 : (List Int)), Item.box b4 [(.int .i64 x5), (.int .i64 x6), (.int .i64 x7), (.bool x8)], Item.box b3 [v1, (.int .i64 x3), (.int .i64 x4)], Item.own v1 (x2 : (List Int))] := hC121.front 4 rfl
                                  have hC123 : Ctx [] w0 _ [Item.own v14 (x36.2.1 : (List Int)), Item.box b8 [v14, (.int .i64 x16), (.int .i64 x17)]] := hC122.headN 2
                                  refine nrm_sub (l' := [(12, (ptr b8 0)), (15, (.int .i64 x36.1)), (119, (.bool (!x51)))]) ⟨rfl, rfl, rfl, trivial⟩ ?_
                                  exact ⟨(!x51), rfl, rfl, ((Keep.of hB50).then hB51).below, hC123⟩
                              · rintro _ w59 ⟨x49, rfl, rfl, hB49, hC115⟩
                                try dsimp only at hF
                                refine W_cond rfl (fun hc13 => ?_) (fun hc13 => ?_)
                                · replace hF := ite_t hF hc13
                                  refine W_seq_reg ?_
                                  refine WL_assign rfl rfl ?_
                                  refine WL_nil ?_
                                  refine W_ret ?_
                                  refine nrm_ret ?_
                                  have hq22 := Option.some.inj hF
                                  subst hq22
                                  refine fn_ret1 rfl rfl ?_
                                  exact ⟨_, rfl, bool_res hC115 _⟩
                                · replace hF := ite_f hF hc13
                                  refine W_skip ?_
                                  refine nrm_normal ?_
                                  refine W_seq_reg ?_
                                  refine WL_assign rfl rfl ?_
                                  refine WL_nil ?_
                                  refine W_seq_reg ?_
                                  refine WL_load_box_agg [v14, (.int .i64 x16), (.int .i64 x17)] hC115 1 rfl rfl rfl Try.isAgg26 Try.sizeOf26 rfl rfl ?_
                                  refine WL_move rfl rfl ?_
                                  obtain ⟨x52, hr34, hF⟩ := bind_some hF
                                  refine WL_call Try.call21 rfl rfl (c_Q_heldLedger (x36.2.1, x16, x17) v14 ((hC115.ro 0 rfl).now (Keep.refl _ _)) 1 x52 hr34) ?_
                                  intro _ w62 hv34
                                  obtain ⟨rfl, hB52⟩ := res_int hv34
                                  have hC124 := hC115.grow hB52
                                  refine WL_assign rfl rfl ?_
                                  refine WL_nil ?_
                                  refine W_seq ?_
                                  refine W_seq_reg ?_
                                  refine WL_move rfl rfl ?_
                                  refine WL_lss rfl rfl rfl ?_
                                  refine WL_nil ?_
                                  refine W_cond rfl (fun hc14 => ?_) (fun hc14 => ?_)
                                  · replace hF := ite_t hF hc14
                                    refine W_seq_reg ?_
                                    refine WL_assign rfl rfl ?_
                                    refine WL_nil ?_
                                    refine W_ret ?_
                                    refine nrm_ret ?_
                                    have hq23 := Option.some.inj hF
                                    subst hq23
                                    refine fn_ret1 rfl rfl ?_
                                    exact ⟨_, rfl, bool_res hC124 _⟩
                                  · replace hF := ite_f hF hc14
                                    refine W_skip ?_
                                    refine nrm_normal ?_
                                    refine W_seq ?_
                                    refine W_seq_reg ?_
                                    refine WL_move rfl rfl ?_
                                    refine WL_move rfl rfl ?_
                                    refine WL_neq rfl rfl rfl ?_
                                    refine WL_nil ?_
                                    refine W_cond rfl (fun hc15 => ?_) (fun hc15 => ?_)
                                    · replace hF := ite_t hF hc15
                                      refine W_seq_reg ?_
                                      refine WL_assign rfl rfl ?_
                                      refine WL_nil ?_
                                      refine W_ret ?_
                                      refine nrm_ret ?_
                                      have hq24 := Option.some.inj hF
                                      subst hq24
                                      refine fn_ret1 rfl rfl ?_
                                      exact ⟨_, rfl, bool_res hC124 _⟩
                                    · replace hF := ite_f hF hc15
                                      refine W_skip ?_
                                      refine nrm_normal ?_
                                      refine W_seq_reg ?_
                                      refine WL_assign rfl rfl ?_
                                      refine WL_nil ?_
                                      refine W_ret ?_
                                      have hq25 := Option.some.inj hF
                                      subst hq25
                                      refine fn_ret1 rfl rfl ?_
                                      exact ⟨_, rfl, bool_res hC124 _⟩

theorem c_M_ReceiveCall {w0 : World} (a1 : ((List Int) × Int × Int)) (u1 : Value) (g1 : RO [] w0 u1 a1.1) (a2 : Int) (a3 : Int) (rr : (((List Int) × Int × Int) × Bool)) (hF : M.ReceiveCall a1 a2 a3 = some rr) :
    Calls Try.prog 18 [(.agg #[u1, (.int .i64 a1.2.1), (.int .i64 a1.2.2)]), (.int .i64 a2), (.int .i64 a3)].toArray w0 fun e w' => ∃ v, e = .returned v ∧ Res2 w0 rr.1 rr.2 v w' := by
  refine calls_of_W Try.func18 rfl rfl ?_
  have hC0 := Ctx.start w0
  unfold M.ReceiveCall at hF
  refine W_seq_reg ?_
  refine WL_box (cs := [u1, (.int .i64 a1.2.1), (.int .i64 a1.2.2)]) hC0 rfl rfl rfl (fun b1 w1 hC1 hB1 => ?_)
  refine WL_alloc hC1 zero26 rfl rfl (fun b2 w2 hC2 hB2 => ?_)
  refine WL_assign rfl rfl ?_
  refine WL_nil ?_
  refine W_seq_reg ?_
  refine WL_load_box_agg [u1, (.int .i64 a1.2.1), (.int .i64 a1.2.2)] hC2 1 rfl rfl rfl Try.isAgg26 Try.sizeOf26 rfl rfl ?_
  obtain ⟨x1, hr1, hF⟩ := bind_some hF
  refine WL_call Try.call93 rfl rfl (c_M_copyLedger (a1.1, a1.2.1, a1.2.2) u1 (g1.now hC2.keep) x1 hr1) ?_
  rintro v1 w3 ⟨hB3, F1, hv1, hn1, hb1⟩
  have hC3 := hC2.push hB3 (A := Item.own v1 x1) hv1 hn1 hb1
  obtain ⟨v2, rfl, hC4⟩ := st26_own hC3
  refine WL_alloc hC4 zero26 rfl rfl (fun b3 w4 hC5 hB4 => ?_)
  refine WL_store_box_agg (cs' := [v2, (.int .i64 x1.2.1), (.int .i64 x1.2.2)]) (new := [v2, (.int .i64 x1.2.1), (.int .i64 x1.2.2)]) hC5 0 rfl rfl (by intro v hv; simp only [List.mem_cons, List.not_mem_nil, or_false] at hv; rcases hv with rfl | rfl | rfl; exact (ro_one (hC5.ro 1 rfl)); exact rfl; exact rfl) rfl Try.sizeOf26 rfl rfl (fun w5 hC6 => ?_)
  try dsimp only [List.set] at hC6
  refine WL_nil ?_
  refine W_seq ?_
  obtain ⟨r1, hr2, hF⟩ := bind_some hF
  refine W_cut (fun l w => ∃ x2 : Bool, x2 = r1 ∧ l = [(1, (.int .i64 a2)), (2, (.int .i64 a3)), (6, (ptr b2 0)), (8, (ptr b3 0)), (33, (.bool x2))] ∧ Below w5.heap.size w5 w ∧ Ctx [] w0 w [Item.box b3 [v2, (.int .i64 x1.2.1), (.int .i64 x1.2.2)], Item.own v2 (x1.1 : (List Int)), Item.box b2 [(.slice none 0 0), (.int .i64 0), (.int .i64 0)]]) ?_ ?_
  · refine W_reg ?_
    refine WL_load_box_agg [u1, (.int .i64 a1.2.1), (.int .i64 a1.2.2)] hC6 3 rfl rfl rfl Try.isAgg26 Try.sizeOf26 rfl rfl ?_
    obtain ⟨x3, hr3, hr2⟩ := bind_some hr2
    refine WL_call Try.call31 rfl rfl (c_M_IsLedger (a1.1, a1.2.1, a1.2.2) u1 (g1.now hC6.keep) x3 hr3) ?_
    intro _ w7 hv2
    obtain ⟨rfl, hB6⟩ := res_bool hv2
    have hC8 := hC6.grow hB6
    refine WL_not rfl rfl ?_
    refine WL_move rfl rfl ?_
    refine WL_fork (fun hc1 => ?_) (fun hc1 => ?_)
    · replace hr2 := ite_t hr2 hc1
      refine WL_guard_skip rfl rfl (by simp) rfl ?_
      refine WL_guard_skip rfl rfl (by simp) rfl ?_
      refine WL_guard_skip rfl rfl (by simp) rfl ?_
      refine WL_pick_t rfl rfl rfl ?_
      refine WL_move rfl rfl ?_
      refine WL_guard_skip rfl rfl (by simp) rfl ?_
      refine WL_guard_skip rfl rfl (by simp) rfl ?_
      refine WL_guard_skip rfl rfl (by simp) rfl ?_
      refine WL_pick_t rfl rfl rfl ?_
      refine WL_move rfl rfl ?_
      refine WL_guard_skip rfl rfl (by simp) rfl ?_
      refine WL_guard_skip rfl rfl (by simp) rfl ?_
      refine WL_guard_skip rfl rfl (by simp) rfl ?_
      refine WL_pick_t rfl rfl rfl ?_
      refine WL_move rfl rfl ?_
      refine WL_guard_skip rfl rfl (by simp) rfl ?_
      refine WL_guard_skip rfl rfl (by simp) rfl ?_
      refine WL_guard_skip rfl rfl (by simp) rfl ?_
      refine WL_pick_t rfl rfl rfl ?_
      refine WL_nil ?_
      have hq1 := Option.some.inj hr2
      subst hq1
      have hC9 : Ctx [] w0 _ [Item.box b2 [(.slice none 0 0), (.int .i64 0), (.int .i64 0)], Item.box b3 [v2, (.int .i64 x1.2.1), (.int .i64 x1.2.2)], Item.own v2 (x1.1 : (List Int)), Item.box b1 [u1, (.int .i64 a1.2.1), (.int .i64 a1.2.2)]] := hC8.front 2 rfl
      have hC10 : Ctx [] w0 _ [Item.own v2 (x1.1 : (List Int)), Item.box b2 [(.slice none 0 0), (.int .i64 0), (.int .i64 0)], Item.box b3 [v2, (.int .i64 x1.2.1), (.int .i64 x1.2.2)], Item.box b1 [u1, (.int .i64 a1.2.1), (.int .i64 a1.2.2)]] := hC9.front 2 rfl
      have hC11 : Ctx [] w0 _ [Item.box b3 [v2, (.int .i64 x1.2.1), (.int .i64 x1.2.2)], Item.own v2 (x1.1 : (List Int)), Item.box b2 [(.slice none 0 0), (.int .i64 0), (.int .i64 0)], Item.box b1 [u1, (.int .i64 a1.2.1), (.int .i64 a1.2.2)]] := hC10.front 2 rfl
      have hC12 : Ctx [] w0 _ [Item.box b3 [v2, (.int .i64 x1.2.1), (.int .i64 x1.2.2)], Item.own v2 (x1.1 : (List Int)), Item.box b2 [(.slice none 0 0), (.int .i64 0), (.int .i64 0)]] := hC11.headN 3
      refine nrm_sub (l' := [(1, (.int .i64 a2)), (2, (.int .i64 a3)), (6, (ptr b2 0)), (8, (ptr b3 0)), (33, (.bool true))]) ⟨rfl, rfl, rfl, rfl, rfl, trivial⟩ ?_
      exact ⟨true, rfl, rfl, (Keep.of hB6).below, hC12⟩
    · replace hr2 := ite_f hr2 hc1
      refine WL_guard rfl rfl ?_
      refine WL_move rfl rfl ?_
      obtain ⟨x4, hr4, hr2⟩ := bind_some hr2
      refine WL_guard rfl rfl ?_
      refine WL_call Try.call94 rfl rfl (c_M_isKey a2 x4 hr4) ?_
      intro _ w8 hv3
      obtain ⟨rfl, hB7⟩ := res_bool hv3
      have hC13 := hC8.grow hB7
      refine WL_guard rfl rfl ?_
      refine WL_not rfl rfl ?_
      refine WL_pick_f rfl rfl rfl ?_
      refine WL_move rfl rfl ?_
      refine WL_fork (fun hc2 => ?_) (fun hc2 => ?_)
      · replace hr2 := ite_t hr2 hc2
        refine WL_guard_skip rfl rfl (by simp) rfl ?_
        refine WL_guard_skip rfl rfl (by simp) rfl ?_
        refine WL_guard_skip rfl rfl (by simp) rfl ?_
        refine WL_pick_t rfl rfl rfl ?_
        refine WL_move rfl rfl ?_
        refine WL_guard_skip rfl rfl (by simp) rfl ?_
        refine WL_guard_skip rfl rfl (by simp) rfl ?_
        refine WL_guard_skip rfl rfl (by simp) rfl ?_
        refine WL_pick_t rfl rfl rfl ?_
        refine WL_move rfl rfl ?_
        refine WL_guard_skip rfl rfl (by simp) rfl ?_
        refine WL_guard_skip rfl rfl (by simp) rfl ?_
        refine WL_guard_skip rfl rfl (by simp) rfl ?_
        refine WL_pick_t rfl rfl rfl ?_
        refine WL_nil ?_
        have hq2 := Option.some.inj hr2
        subst hq2
        have hC14 : Ctx [] w0 _ [Item.box b2 [(.slice none 0 0), (.int .i64 0), (.int .i64 0)], Item.box b3 [v2, (.int .i64 x1.2.1), (.int .i64 x1.2.2)], Item.own v2 (x1.1 : (List Int)), Item.box b1 [u1, (.int .i64 a1.2.1), (.int .i64 a1.2.2)]] := hC13.front 2 rfl
        have hC15 : Ctx [] w0 _ [Item.own v2 (x1.1 : (List Int)), Item.box b2 [(.slice none 0 0), (.int .i64 0), (.int .i64 0)], Item.box b3 [v2, (.int .i64 x1.2.1), (.int .i64 x1.2.2)], Item.box b1 [u1, (.int .i64 a1.2.1), (.int .i64 a1.2.2)]] := hC14.front 2 rfl
        have hC16 : Ctx [] w0 _ [Item.box b3 [v2, (.int .i64 x1.2.1), (.int .i64 x1.2.2)], Item.own v2 (x1.1 : (List Int)), Item.box b2 [(.slice none 0 0), (.int .i64 0), (.int .i64 0)], Item.box b1 [u1, (.int .i64 a1.2.1), (.int .i64 a1.2.2)]] := hC15.front 2 rfl
        have hC17 : Ctx [] w0 _ [Item.box b3 [v2, (.int .i64 x1.2.1), (.int .i64 x1.2.2)], Item.own v2 (x1.1 : (List Int)), Item.box b2 [(.slice none 0 0), (.int .i64 0), (.int .i64 0)]] := hC16.headN 3
        refine nrm_sub (l' := [(1, (.int .i64 a2)), (2, (.int .i64 a3)), (6, (ptr b2 0)), (8, (ptr b3 0)), (33, (.bool true))]) ⟨rfl, rfl, rfl, rfl, rfl, trivial⟩ ?_
        exact ⟨true, rfl, rfl, ((Keep.of hB6).then hB7).below, hC17⟩
      · replace hr2 := ite_f hr2 hc2
        refine WL_guard rfl rfl ?_
        refine WL_move rfl rfl ?_
        obtain ⟨x5, hr5, hr2⟩ := bind_some hr2
        refine WL_guard rfl rfl ?_
        refine WL_call Try.call95 rfl rfl (c_M_isCost a3 x5 hr5) ?_
        intro _ w9 hv4
        obtain ⟨rfl, hB8⟩ := res_bool hv4
        have hC18 := hC13.grow hB8
        refine WL_guard rfl rfl ?_
        refine WL_not rfl rfl ?_
        refine WL_pick_f rfl rfl rfl ?_
        refine WL_move rfl rfl ?_
        refine WL_fork (fun hc3 => ?_) (fun hc3 => ?_)
        · replace hr2 := ite_t hr2 hc3
          refine WL_guard_skip rfl rfl (by simp) rfl ?_
          refine WL_guard_skip rfl rfl (by simp) rfl ?_
          refine WL_guard_skip rfl rfl (by simp) rfl ?_
          refine WL_pick_t rfl rfl rfl ?_
          refine WL_move rfl rfl ?_
          refine WL_guard_skip rfl rfl (by simp) rfl ?_
          refine WL_guard_skip rfl rfl (by simp) rfl ?_
          refine WL_guard_skip rfl rfl (by simp) rfl ?_
          refine WL_pick_t rfl rfl rfl ?_
          refine WL_nil ?_
          have hq3 := Option.some.inj hr2
          subst hq3
          have hC19 : Ctx [] w0 _ [Item.box b2 [(.slice none 0 0), (.int .i64 0), (.int .i64 0)], Item.box b3 [v2, (.int .i64 x1.2.1), (.int .i64 x1.2.2)], Item.own v2 (x1.1 : (List Int)), Item.box b1 [u1, (.int .i64 a1.2.1), (.int .i64 a1.2.2)]] := hC18.front 2 rfl
          have hC20 : Ctx [] w0 _ [Item.own v2 (x1.1 : (List Int)), Item.box b2 [(.slice none 0 0), (.int .i64 0), (.int .i64 0)], Item.box b3 [v2, (.int .i64 x1.2.1), (.int .i64 x1.2.2)], Item.box b1 [u1, (.int .i64 a1.2.1), (.int .i64 a1.2.2)]] := hC19.front 2 rfl
          have hC21 : Ctx [] w0 _ [Item.box b3 [v2, (.int .i64 x1.2.1), (.int .i64 x1.2.2)], Item.own v2 (x1.1 : (List Int)), Item.box b2 [(.slice none 0 0), (.int .i64 0), (.int .i64 0)], Item.box b1 [u1, (.int .i64 a1.2.1), (.int .i64 a1.2.2)]] := hC20.front 2 rfl
          have hC22 : Ctx [] w0 _ [Item.box b3 [v2, (.int .i64 x1.2.1), (.int .i64 x1.2.2)], Item.own v2 (x1.1 : (List Int)), Item.box b2 [(.slice none 0 0), (.int .i64 0), (.int .i64 0)]] := hC21.headN 3
          refine nrm_sub (l' := [(1, (.int .i64 a2)), (2, (.int .i64 a3)), (6, (ptr b2 0)), (8, (ptr b3 0)), (33, (.bool true))]) ⟨rfl, rfl, rfl, rfl, rfl, trivial⟩ ?_
          exact ⟨true, rfl, rfl, (((Keep.of hB6).then hB7).then hB8).below, hC22⟩
        · replace hr2 := ite_f hr2 hc3
          refine WL_guard rfl rfl ?_
          refine WL_field Try.underlying26 rfl rfl (fun w => ⟨_, Try.sizeOf3 w⟩) rfl rfl ?_
          refine WL_guard rfl rfl ?_
          refine WL_load_box hC18 3 rfl rfl Try.isAgg3 rfl rfl ?_
          refine WL_guard rfl rfl ?_
          refine WL_gtr rfl rfl rfl ?_
          refine WL_pick_f rfl rfl rfl ?_
          refine WL_move rfl rfl ?_
          refine WL_fork (fun hc4 => ?_) (fun hc4 => ?_)
          · replace hr2 := ite_t hr2 hc4
            refine WL_guard_skip rfl rfl (by simp) rfl ?_
            refine WL_guard_skip rfl rfl (by simp) rfl ?_
            refine WL_guard_skip rfl rfl (by simp) rfl ?_
            refine WL_pick_t rfl rfl rfl ?_
            refine WL_nil ?_
            have hq4 := Option.some.inj hr2
            subst hq4
            have hC23 : Ctx [] w0 _ [Item.box b2 [(.slice none 0 0), (.int .i64 0), (.int .i64 0)], Item.box b3 [v2, (.int .i64 x1.2.1), (.int .i64 x1.2.2)], Item.own v2 (x1.1 : (List Int)), Item.box b1 [u1, (.int .i64 a1.2.1), (.int .i64 a1.2.2)]] := hC18.front 2 rfl
            have hC24 : Ctx [] w0 _ [Item.own v2 (x1.1 : (List Int)), Item.box b2 [(.slice none 0 0), (.int .i64 0), (.int .i64 0)], Item.box b3 [v2, (.int .i64 x1.2.1), (.int .i64 x1.2.2)], Item.box b1 [u1, (.int .i64 a1.2.1), (.int .i64 a1.2.2)]] := hC23.front 2 rfl
            have hC25 : Ctx [] w0 _ [Item.box b3 [v2, (.int .i64 x1.2.1), (.int .i64 x1.2.2)], Item.own v2 (x1.1 : (List Int)), Item.box b2 [(.slice none 0 0), (.int .i64 0), (.int .i64 0)], Item.box b1 [u1, (.int .i64 a1.2.1), (.int .i64 a1.2.2)]] := hC24.front 2 rfl
            have hC26 : Ctx [] w0 _ [Item.box b3 [v2, (.int .i64 x1.2.1), (.int .i64 x1.2.2)], Item.own v2 (x1.1 : (List Int)), Item.box b2 [(.slice none 0 0), (.int .i64 0), (.int .i64 0)]] := hC25.headN 3
            refine nrm_sub (l' := [(1, (.int .i64 a2)), (2, (.int .i64 a3)), (6, (ptr b2 0)), (8, (ptr b3 0)), (33, (.bool true))]) ⟨rfl, rfl, rfl, rfl, rfl, trivial⟩ ?_
            exact ⟨true, rfl, rfl, (((Keep.of hB6).then hB7).then hB8).below, hC26⟩
          · replace hr2 := ite_f hr2 hc4
            refine WL_guard rfl rfl ?_
            refine WL_field Try.underlying26 rfl rfl (fun w => ⟨_, Try.sizeOf3 w⟩) rfl rfl ?_
            refine WL_guard rfl rfl ?_
            refine WL_load_box hC18 3 rfl rfl Try.isAgg3 rfl rfl ?_
            refine WL_guard rfl rfl ?_
            refine WL_gtr rfl rfl rfl ?_
            refine WL_pick_f rfl rfl rfl ?_
            refine WL_nil ?_
            have hq5 := Option.some.inj hr2
            subst hq5
            have hC27 : Ctx [] w0 _ [Item.box b2 [(.slice none 0 0), (.int .i64 0), (.int .i64 0)], Item.box b3 [v2, (.int .i64 x1.2.1), (.int .i64 x1.2.2)], Item.own v2 (x1.1 : (List Int)), Item.box b1 [u1, (.int .i64 a1.2.1), (.int .i64 a1.2.2)]] := hC18.front 2 rfl
            have hC28 : Ctx [] w0 _ [Item.own v2 (x1.1 : (List Int)), Item.box b2 [(.slice none 0 0), (.int .i64 0), (.int .i64 0)], Item.box b3 [v2, (.int .i64 x1.2.1), (.int .i64 x1.2.2)], Item.box b1 [u1, (.int .i64 a1.2.1), (.int .i64 a1.2.2)]] := hC27.front 2 rfl
            have hC29 : Ctx [] w0 _ [Item.box b3 [v2, (.int .i64 x1.2.1), (.int .i64 x1.2.2)], Item.own v2 (x1.1 : (List Int)), Item.box b2 [(.slice none 0 0), (.int .i64 0), (.int .i64 0)], Item.box b1 [u1, (.int .i64 a1.2.1), (.int .i64 a1.2.2)]] := hC28.front 2 rfl
            have hC30 : Ctx [] w0 _ [Item.box b3 [v2, (.int .i64 x1.2.1), (.int .i64 x1.2.2)], Item.own v2 (x1.1 : (List Int)), Item.box b2 [(.slice none 0 0), (.int .i64 0), (.int .i64 0)]] := hC29.headN 3
            refine nrm_sub (l' := [(1, (.int .i64 a2)), (2, (.int .i64 a3)), (6, (ptr b2 0)), (8, (ptr b3 0)), (33, (.bool (decide (999999000 < a1.2.2))))]) ⟨rfl, rfl, rfl, rfl, rfl, trivial⟩ ?_
            exact ⟨(decide (999999000 < a1.2.2)), rfl, rfl, (((Keep.of hB6).then hB7).then hB8).below, hC30⟩
  · rintro _ w6 ⟨x2, rfl, rfl, hB5, hC7⟩
    try dsimp only at hF
    refine W_cond rfl (fun hc5 => ?_) (fun hc5 => ?_)
    · replace hF := ite_t hF hc5
      refine W_seq_reg ?_
      refine WL_load_box_agg [v2, (.int .i64 x1.2.1), (.int .i64 x1.2.2)] hC7 0 rfl rfl rfl Try.isAgg26 Try.sizeOf26 rfl rfl ?_
      refine WL_store_box_agg (cs' := [v2, (.int .i64 x1.2.1), (.int .i64 x1.2.2)]) (new := [v2, (.int .i64 x1.2.1), (.int .i64 x1.2.2)]) hC7 2 rfl rfl (by intro v hv; simp only [List.mem_cons, List.not_mem_nil, or_false] at hv; rcases hv with rfl | rfl | rfl; exact (ro_one (hC7.ro 1 rfl)); exact rfl; exact rfl) rfl Try.sizeOf26 rfl rfl (fun w10 hC31 => ?_)
      try dsimp only [List.set] at hC31
      refine WL_assign rfl rfl ?_
      refine WL_nil ?_
      refine W_ret ?_
      refine nrm_ret ?_
      have hq6 := Option.some.inj hF
      subst hq6
      refine fn_retG2 rfl (rv_cell_agg (cs' := [v2, (.int .i64 x1.2.1), (.int .i64 x1.2.2)]) hC31 (i := 2) rfl rfl rfl Try.isAgg26 Try.sizeOf26 rfl) (rv_tmp rfl) ?_
      have hC32 := hC31.triv (bool_val (false))
      have hC34 : Ctx [] w0 _ [Item.own v2 (x1.1 : (List Int)), Item.own (.bool false) (false : Bool), Item.box b3 [v2, (.int .i64 x1.2.1), (.int .i64 x1.2.2)], Item.box b2 [v2, (.int .i64 x1.2.1), (.int .i64 x1.2.2)]] := hC32.front 2 rfl
      have hC33 := own_st26 v2 x1.1 x1.2.1 x1.2.2 hC34
      exact ⟨_, rfl, res2_of hC33⟩
    · replace hF := ite_f hF hc5
      refine W_skip ?_
      refine nrm_normal ?_
      refine W_seq_reg ?_
      refine WL_move rfl rfl ?_
      refine WL_move rfl rfl ?_
      obtain ⟨x6, hr6, hF⟩ := bind_some hF
      have hC35 : Ctx [] w0 _ [Item.own v2 (x1.1 : (List Int)), Item.box b3 [v2, (.int .i64 x1.2.1), (.int .i64 x1.2.2)], Item.box b2 [(.slice none 0 0), (.int .i64 0), (.int .i64 0)]] := hC7.front 1 rfl
      obtain ⟨Fs1, hH1, hn2, hF1, hO1, hb2⟩ := Ctx.lend2 (As := [Item.box b2 [(.slice none 0 0), (.int .i64 0), (.int .i64 0)]]) [Item.own v2 (x1.1 : (List Int)), Item.box b3 [v2, (.int .i64 x1.2.1), (.int .i64 x1.2.2)]] hC35
      refine WL_call Try.call96 rfl rfl (c_M_Ledger_receive b3 (x1.1, x1.2.1, x1.2.2) v2 a2 a3 hH1 hn2 x6 hr6) ?_
      rintro _ w11 ⟨v3, rfl, hq7⟩
      have hC36 : Ctx [] w0 w11 [Item.own v3 (x6.1 : (List Int)), Item.box b3 [v3, (.int .i64 x6.2.1), (.int .i64 x6.2.2)], Item.box b2 [(.slice none 0 0), (.int .i64 0), (.int .i64 0)]] := hb2 _ _ hq7
      refine WL_nil ?_
      refine W_seq_reg ?_
      refine WL_load_box_agg [v3, (.int .i64 x6.2.1), (.int .i64 x6.2.2)] hC36 1 rfl rfl rfl Try.isAgg26 Try.sizeOf26 rfl rfl ?_
      refine WL_store_box_agg (cs' := [v3, (.int .i64 x6.2.1), (.int .i64 x6.2.2)]) (new := [v3, (.int .i64 x6.2.1), (.int .i64 x6.2.2)]) hC36 2 rfl rfl (by intro v hv; simp only [List.mem_cons, List.not_mem_nil, or_false] at hv; rcases hv with rfl | rfl | rfl; exact (ro_one (hC36.ro 0 rfl)); exact rfl; exact rfl) rfl Try.sizeOf26 rfl rfl (fun w12 hC37 => ?_)
      try dsimp only [List.set] at hC37
      refine WL_assign rfl rfl ?_
      refine WL_nil ?_
      refine W_ret ?_
      have hq8 := Option.some.inj hF
      subst hq8
      refine fn_retG2 rfl (rv_cell_agg (cs' := [v3, (.int .i64 x6.2.1), (.int .i64 x6.2.2)]) hC37 (i := 2) rfl rfl rfl Try.isAgg26 Try.sizeOf26 rfl) (rv_tmp rfl) ?_
      have hC38 := hC37.triv (bool_val (true))
      have hC40 : Ctx [] w0 _ [Item.own v3 (x6.1 : (List Int)), Item.own (.bool true) (true : Bool), Item.box b3 [v3, (.int .i64 x6.2.1), (.int .i64 x6.2.2)], Item.box b2 [v3, (.int .i64 x6.2.1), (.int .i64 x6.2.2)]] := hC38.front 1 rfl
      have hC39 := own_st26 v3 x6.1 x6.2.1 x6.2.2 hC40
      exact ⟨_, rfl, res2_of hC39⟩

theorem c_Q_FnExactReceiveCall {w0 : World} (a1 : ((List Int) × Int × Int)) (u1 : Value) (g1 : RO [] w0 u1 a1.1) (a2 : Int) (a3 : Int) (rr : Bool) (hF : Q.FnExactReceiveCall a1 a2 a3 = some rr) :
    Calls Try.prog 3 [(.agg #[u1, (.int .i64 a1.2.1), (.int .i64 a1.2.2)]), (.int .i64 a2), (.int .i64 a3)].toArray w0 fun e w' => ∃ v, e = .returned v ∧ Res w0 rr v w' := by
  refine calls_of_W Try.func3 rfl rfl ?_
  have hC0 := Ctx.start w0
  unfold Q.FnExactReceiveCall at hF
  refine W_seq_reg ?_
  refine WL_box (cs := [u1, (.int .i64 a1.2.1), (.int .i64 a1.2.2)]) hC0 rfl rfl rfl (fun b1 w1 hC1 hB1 => ?_)
  refine WL_assign rfl rfl ?_
  refine WL_nil ?_
  refine W_seq_reg ?_
  refine WL_assign rfl rfl ?_
  refine WL_nil ?_
  refine W_seq_reg ?_
  refine WL_load_box_agg [u1, (.int .i64 a1.2.1), (.int .i64 a1.2.2)] hC1 0 rfl rfl rfl Try.isAgg24 Try.sizeOf24 rfl rfl ?_
  refine WL_move rfl rfl ?_
  obtain ⟨x1, hr1, hF⟩ := bind_some hF
  refine WL_call Try.call15 rfl rfl (c_Q_szLedger (a1.1, a1.2.1, a1.2.2) u1 (g1.now hC1.keep) 1048576 x1 hr1) ?_
  intro _ w2 hv1
  obtain ⟨rfl, hB2⟩ := res_int hv1
  have hC2 := hC1.grow hB2
  refine WL_assign rfl rfl ?_
  refine WL_nil ?_
  refine W_seq ?_
  refine W_seq_reg ?_
  refine WL_move rfl rfl ?_
  refine WL_lss rfl rfl rfl ?_
  refine WL_nil ?_
  refine W_cond rfl (fun hc1 => ?_) (fun hc1 => ?_)
  · replace hF := ite_t hF hc1
    refine W_seq_reg ?_
    refine WL_assign rfl rfl ?_
    refine WL_nil ?_
    refine W_ret ?_
    refine nrm_ret ?_
    have hq1 := Option.some.inj hF
    subst hq1
    refine fn_ret1 rfl rfl ?_
    exact ⟨_, rfl, bool_res hC2 _⟩
  · replace hF := ite_f hF hc1
    refine W_skip ?_
    refine nrm_normal ?_
    refine W_seq_reg ?_
    refine WL_load_box_agg [u1, (.int .i64 a1.2.1), (.int .i64 a1.2.2)] hC2 0 rfl rfl rfl Try.isAgg24 Try.sizeOf24 rfl rfl ?_
    obtain ⟨x2, hr2, hF⟩ := bind_some hF
    refine WL_call Try.call17 rfl rfl (c_Q_toLedger (a1.1, a1.2.1, a1.2.2) u1 (g1.now hC2.keep) x2 hr2) ?_
    rintro v1 w3 ⟨hB3, F1, hv2, hn1, hb1⟩
    have hC3 := hC2.push hB3 (A := Item.own v1 x2) hv2 hn1 hb1
    obtain ⟨v2, rfl, hC4⟩ := st26_own hC3
    refine WL_move rfl rfl ?_
    refine WL_move rfl rfl ?_
    obtain ⟨x3, hr3, hF⟩ := bind_some hF
    refine WL_call Try.call16 rfl rfl (c_S_ReceiveCall x2 v2 ((hC4.ro 0 rfl).now (Keep.refl _ _)) a2 a3 x3 hr3) ?_
    rintro _ w4 ⟨hB4, v3, v4, F2, F3, rfl, hv3, hv4, hn2, hb2⟩
    obtain ⟨rfl, rfl⟩ := val_bool hv4
    have hC5 := hC4.pushL hB4 (Bs := [Item.own v3 x3.1]) (Fs := [F2]) ⟨F2, _, rfl, hv3, rfl⟩ (by simpa using hn2) (fun b h => hb2 b (by simpa using h))
    obtain ⟨v5, rfl, hC6⟩ := st26_own hC5
    refine WL_move rfl rfl ?_
    refine WL_extract rfl rfl rfl ?_
    refine WL_extract rfl rfl rfl ?_
    refine WL_alloc hC6 zero26 rfl rfl (fun b2 w5 hC7 hB5 => ?_)
    refine WL_store_box_agg (cs' := [v5, (.int .i64 x3.1.2.1), (.int .i64 x3.1.2.2)]) (new := [v5, (.int .i64 x3.1.2.1), (.int .i64 x3.1.2.2)]) hC7 0 rfl rfl (by intro v hv; simp only [List.mem_cons, List.not_mem_nil, or_false] at hv; rcases hv with rfl | rfl | rfl; exact (ro_one (hC7.ro 1 rfl)); exact rfl; exact rfl) rfl Try.sizeOf26 rfl rfl (fun w6 hC8 => ?_)
    try dsimp only [List.set] at hC8
    refine WL_assign rfl rfl ?_
    refine WL_nil ?_
    refine W_seq_reg ?_
    refine WL_load_box_agg [u1, (.int .i64 a1.2.1), (.int .i64 a1.2.2)] hC8 3 rfl rfl rfl Try.isAgg24 Try.sizeOf24 rfl rfl ?_
    obtain ⟨x4, hr4, hF⟩ := bind_some hF
    refine WL_call Try.call17 rfl rfl (c_Q_toLedger (a1.1, a1.2.1, a1.2.2) u1 (g1.now hC8.keep) x4 hr4) ?_
    rintro v6 w7 ⟨hB6, F4, hv5, hn3, hb3⟩
    have hC9 := hC8.push hB6 (A := Item.own v6 x4) hv5 hn3 hb3
    obtain ⟨v7, rfl, hC10⟩ := st26_own hC9
    refine WL_alloc hC10 zero26 rfl rfl (fun b3 w8 hC11 hB7 => ?_)
    refine WL_store_box_agg (cs' := [v7, (.int .i64 x4.2.1), (.int .i64 x4.2.2)]) (new := [v7, (.int .i64 x4.2.1), (.int .i64 x4.2.2)]) hC11 0 rfl rfl (by intro v hv; simp only [List.mem_cons, List.not_mem_nil, or_false] at hv; rcases hv with rfl | rfl | rfl; exact (ro_one (hC11.ro 1 rfl)); exact rfl; exact rfl) rfl Try.sizeOf26 rfl rfl (fun w9 hC12 => ?_)
    try dsimp only [List.set] at hC12
    refine WL_nil ?_
    refine W_seq_reg ?_
    refine WL_load_box_agg [v7, (.int .i64 x4.2.1), (.int .i64 x4.2.2)] hC12 0 rfl rfl rfl Try.isAgg26 Try.sizeOf26 rfl rfl ?_
    refine WL_move rfl rfl ?_
    refine WL_move rfl rfl ?_
    obtain ⟨x5, hr5, hF⟩ := bind_some hF
    refine WL_call Try.call18 rfl rfl (c_M_ReceiveCall (x4.1, x4.2.1, x4.2.2) v7 ((hC12.ro 1 rfl).now (Keep.refl _ _)) a2 a3 x5 hr5) ?_
    rintro _ w10 ⟨hB8, v8, v9, F5, F6, rfl, hv6, hv7, hn4, hb4⟩
    obtain ⟨rfl, rfl⟩ := val_bool hv7
    have hC13 := hC12.pushL hB8 (Bs := [Item.own v8 x5.1]) (Fs := [F5]) ⟨F5, _, rfl, hv6, rfl⟩ (by simpa using hn4) (fun b h => hb4 b (by simpa using h))
    obtain ⟨v10, rfl, hC14⟩ := st26_own hC13
    refine WL_move rfl rfl ?_
    refine WL_extract rfl rfl rfl ?_
    refine WL_extract rfl rfl rfl ?_
    refine WL_alloc hC14 zero26 rfl rfl (fun b4 w11 hC15 hB9 => ?_)
    refine WL_store_box_agg (cs' := [v10, (.int .i64 x5.1.2.1), (.int .i64 x5.1.2.2)]) (new := [v10, (.int .i64 x5.1.2.1), (.int .i64 x5.1.2.2)]) hC15 0 rfl rfl (by intro v hv; simp only [List.mem_cons, List.not_mem_nil, or_false] at hv; rcases hv with rfl | rfl | rfl; exact (ro_one (hC15.ro 1 rfl)); exact rfl; exact rfl) rfl Try.sizeOf26 rfl rfl (fun w12 hC16 => ?_)
    try dsimp only [List.set] at hC16
    refine WL_assign rfl rfl ?_
    refine WL_nil ?_
    refine W_seq ?_
    obtain ⟨r1, hr6, hF⟩ := bind_some hF
    refine W_cut (fun l w => ∃ x6 : Bool, x6 = r1 ∧ l = [(1, (.int .i64 a2)), (2, (.int .i64 a3)), (3, (ptr b1 0)), (8, (ptr b2 0)), (9, (.bool x3.2)), (10, (ptr b3 0)), (11, (ptr b4 0)), (12, (.bool x5.2)), (48, (.bool x6))] ∧ Below w12.heap.size w12 w ∧ Ctx [] w0 w [Item.box b4 [v10, (.int .i64 x5.1.2.1), (.int .i64 x5.1.2.2)], Item.own v10 (x5.1.1 : (List Int)), Item.box b3 [v7, (.int .i64 x4.2.1), (.int .i64 x4.2.2)], Item.own v7 (x4.1 : (List Int)), Item.box b2 [v5, (.int .i64 x3.1.2.1), (.int .i64 x3.1.2.2)], Item.own v5 (x3.1.1 : (List Int)), Item.box b1 [u1, (.int .i64 a1.2.1), (.int .i64 a1.2.2)]]) ?_ ?_
    · refine W_reg ?_
      refine WL_load_box_agg [v10, (.int .i64 x5.1.2.1), (.int .i64 x5.1.2.2)] hC16 0 rfl rfl rfl Try.isAgg26 Try.sizeOf26 rfl rfl ?_
      refine WL_load_box_agg [v5, (.int .i64 x3.1.2.1), (.int .i64 x3.1.2.2)] hC16 4 rfl rfl rfl Try.isAgg26 Try.sizeOf26 rfl rfl ?_
      obtain ⟨x7, hr7, hr6⟩ := bind_some hr6
      refine WL_call Try.call19 rfl rfl (c_Q_eqLedger (x5.1.1, x5.1.2.1, x5.1.2.2) v10 ((hC16.ro 1 rfl).now (Keep.refl _ _)) (x3.1.1, x3.1.2.1, x3.1.2.2) v5 ((hC16.ro 5 rfl).now (Keep.refl _ _)) x7 hr7) ?_
      intro _ w14 hv8
      obtain ⟨rfl, hB11⟩ := res_bool hv8
      have hC18 := hC16.grow hB11
      refine WL_not rfl rfl ?_
      refine WL_move rfl rfl ?_
      refine WL_fork (fun hc2 => ?_) (fun hc2 => ?_)
      · replace hr6 := ite_t hr6 hc2
        refine WL_guard_skip rfl rfl (by simp) rfl ?_
        refine WL_guard_skip rfl rfl (by simp) rfl ?_
        refine WL_guard_skip rfl rfl (by simp) rfl ?_
        refine WL_pick_t rfl rfl rfl ?_
        refine WL_nil ?_
        have hq2 := Option.some.inj hr6
        subst hq2
        have hC19 : Ctx [] w0 _ [Item.box b1 [u1, (.int .i64 a1.2.1), (.int .i64 a1.2.2)], Item.box b4 [v10, (.int .i64 x5.1.2.1), (.int .i64 x5.1.2.2)], Item.own v10 (x5.1.1 : (List Int)), Item.box b3 [v7, (.int .i64 x4.2.1), (.int .i64 x4.2.2)], Item.own v7 (x4.1 : (List Int)), Item.box b2 [v5, (.int .i64 x3.1.2.1), (.int .i64 x3.1.2.2)], Item.own v5 (x3.1.1 : (List Int)), Item.own v2 (x2.1 : (List Int))] := hC18.front 7 rfl
        have hC20 : Ctx [] w0 _ [Item.own v5 (x3.1.1 : (List Int)), Item.box b1 [u1, (.int .i64 a1.2.1), (.int .i64 a1.2.2)], Item.box b4 [v10, (.int .i64 x5.1.2.1), (.int .i64 x5.1.2.2)], Item.own v10 (x5.1.1 : (List Int)), Item.box b3 [v7, (.int .i64 x4.2.1), (.int .i64 x4.2.2)], Item.own v7 (x4.1 : (List Int)), Item.box b2 [v5, (.int .i64 x3.1.2.1), (.int .i64 x3.1.2.2)], Item.own v2 (x2.1 : (List Int))] := hC19.front 6 rfl
        have hC21 : Ctx [] w0 _ [Item.box b2 [v5, (.int .i64 x3.1.2.1), (.int .i64 x3.1.2.2)], Item.own v5 (x3.1.1 : (List Int)), Item.box b1 [u1, (.int .i64 a1.2.1), (.int .i64 a1.2.2)], Item.box b4 [v10, (.int .i64 x5.1.2.1), (.int .i64 x5.1.2.2)], Item.own v10 (x5.1.1 : (List Int)), Item.box b3 [v7, (.int .i64 x4.2.1), (.int .i64 x4.2.2)], Item.own v7 (x4.1 : (List Int)), Item.own v2 (x2.1 : (List Int))] := hC20.front 6 rfl
        have hC22 : Ctx [] w0 _ [Item.own v7 (x4.1 : (List Int)), Item.box b2 [v5, (.int .i64 x3.1.2.1), (.int .i64 x3.1.2.2)], Item.own v5 (x3.1.1 : (List Int)), Item.box b1 [u1, (.int .i64 a1.2.1), (.int .i64 a1.2.2)], Item.box b4 [v10, (.int .i64 x5.1.2.1), (.int .i64 x5.1.2.2)], Item.own v10 (x5.1.1 : (List Int)), Item.box b3 [v7, (.int .i64 x4.2.1), (.int .i64 x4.2.2)], Item.own v2 (x2.1 : (List Int))] := hC21.front 6 rfl
        have hC23 : Ctx [] w0 _ [Item.box b3 [v7, (.int .i64 x4.2.1), (.int .i64 x4.2.2)], Item.own v7 (x4.1 : (List Int)), Item.box b2 [v5, (.int .i64 x3.1.2.1), (.int .i64 x3.1.2.2)], Item.own v5 (x3.1.1 : (List Int)), Item.box b1 [u1, (.int .i64 a1.2.1), (.int .i64 a1.2.2)], Item.box b4 [v10, (.int .i64 x5.1.2.1), (.int .i64 x5.1.2.2)], Item.own v10 (x5.1.1 : (List Int)), Item.own v2 (x2.1 : (List Int))] := hC22.front 6 rfl
        have hC24 : Ctx [] w0 _ [Item.own v10 (x5.1.1 : (List Int)), Item.box b3 [v7, (.int .i64 x4.2.1), (.int .i64 x4.2.2)], Item.own v7 (x4.1 : (List Int)), Item.box b2 [v5, (.int .i64 x3.1.2.1), (.int .i64 x3.1.2.2)], Item.own v5 (x3.1.1 : (List Int)), Item.box b1 [u1, (.int .i64 a1.2.1), (.int .i64 a1.2.2)], Item.box b4 [v10, (.int .i64 x5.1.2.1), (.int .i64 x5.1.2.2)], Item.own v2 (x2.1 : (List Int))] := hC23.front 6 rfl
        have hC25 : Ctx [] w0 _ [Item.box b4 [v10, (.int .i64 x5.1.2.1), (.int .i64 x5.1.2.2)], Item.own v10 (x5.1.1 : (List Int)), Item.box b3 [v7, (.int .i64 x4.2.1), (.int .i64 x4.2.2)], Item.own v7 (x4.1 : (List Int)), Item.box b2 [v5, (.int .i64 x3.1.2.1), (.int .i64 x3.1.2.2)], Item.own v5 (x3.1.1 : (List Int)), Item.box b1 [u1, (.int .i64 a1.2.1), (.int .i64 a1.2.2)], Item.own v2 (x2.1 : (List Int))] := hC24.front 6 rfl
        have hC26 : Ctx [] w0 _ [Item.box b4 [v10, (.int .i64 x5.1.2.1), (.int .i64 x5.1.2.2)], Item.own v10 (x5.1.1 : (List Int)), Item.box b3 [v7, (.int .i64 x4.2.1), (.int .i64 x4.2.2)], Item.own v7 (x4.1 : (List Int)), Item.box b2 [v5, (.int .i64 x3.1.2.1), (.int .i64 x3.1.2.2)], Item.own v5 (x3.1.1 : (List Int)), Item.box b1 [u1, (.int .i64 a1.2.1), (.int .i64 a1.2.2)]] := hC25.headN 7
        refine nrm_sub (l' := [(1, (.int .i64 a2)), (2, (.int .i64 a3)), (3, (ptr b1 0)), (8, (ptr b2 0)), (9, (.bool x3.2)), (10, (ptr b3 0)), (11, (ptr b4 0)), (12, (.bool x5.2)), (48, (.bool true))]) ⟨rfl, rfl, rfl, rfl, rfl, rfl, rfl, rfl, rfl, trivial⟩ ?_
        exact ⟨true, rfl, rfl, (Keep.of hB11).below, hC26⟩
      · replace hr6 := ite_f hr6 hc2
        refine WL_guard rfl rfl ?_
        refine WL_move rfl rfl ?_
        refine WL_guard rfl rfl ?_
        refine WL_move rfl rfl ?_
        refine WL_guard rfl rfl ?_
        refine WL_bool_neq Try.underlying4 rfl rfl rfl ?_
        refine WL_pick_f rfl rfl rfl ?_
        refine WL_nil ?_
        have hq3 := Option.some.inj hr6
        subst hq3
        have hC27 : Ctx [] w0 _ [Item.box b1 [u1, (.int .i64 a1.2.1), (.int .i64 a1.2.2)], Item.box b4 [v10, (.int .i64 x5.1.2.1), (.int .i64 x5.1.2.2)], Item.own v10 (x5.1.1 : (List Int)), Item.box b3 [v7, (.int .i64 x4.2.1), (.int .i64 x4.2.2)], Item.own v7 (x4.1 : (List Int)), Item.box b2 [v5, (.int .i64 x3.1.2.1), (.int .i64 x3.1.2.2)], Item.own v5 (x3.1.1 : (List Int)), Item.own v2 (x2.1 : (List Int))] := hC18.front 7 rfl
        have hC28 : Ctx [] w0 _ [Item.own v5 (x3.1.1 : (List Int)), Item.box b1 [u1, (.int .i64 a1.2.1), (.int .i64 a1.2.2)], Item.box b4 [v10, (.int .i64 x5.1.2.1), (.int .i64 x5.1.2.2)], Item.own v10 (x5.1.1 : (List Int)), Item.box b3 [v7, (.int .i64 x4.2.1), (.int .i64 x4.2.2)], Item.own v7 (x4.1 : (List Int)), Item.box b2 [v5, (.int .i64 x3.1.2.1), (.int .i64 x3.1.2.2)], Item.own v2 (x2.1 : (List Int))] := hC27.front 6 rfl
        have hC29 : Ctx [] w0 _ [Item.box b2 [v5, (.int .i64 x3.1.2.1), (.int .i64 x3.1.2.2)], Item.own v5 (x3.1.1 : (List Int)), Item.box b1 [u1, (.int .i64 a1.2.1), (.int .i64 a1.2.2)], Item.box b4 [v10, (.int .i64 x5.1.2.1), (.int .i64 x5.1.2.2)], Item.own v10 (x5.1.1 : (List Int)), Item.box b3 [v7, (.int .i64 x4.2.1), (.int .i64 x4.2.2)], Item.own v7 (x4.1 : (List Int)), Item.own v2 (x2.1 : (List Int))] := hC28.front 6 rfl
        have hC30 : Ctx [] w0 _ [Item.own v7 (x4.1 : (List Int)), Item.box b2 [v5, (.int .i64 x3.1.2.1), (.int .i64 x3.1.2.2)], Item.own v5 (x3.1.1 : (List Int)), Item.box b1 [u1, (.int .i64 a1.2.1), (.int .i64 a1.2.2)], Item.box b4 [v10, (.int .i64 x5.1.2.1), (.int .i64 x5.1.2.2)], Item.own v10 (x5.1.1 : (List Int)), Item.box b3 [v7, (.int .i64 x4.2.1), (.int .i64 x4.2.2)], Item.own v2 (x2.1 : (List Int))] := hC29.front 6 rfl
        have hC31 : Ctx [] w0 _ [Item.box b3 [v7, (.int .i64 x4.2.1), (.int .i64 x4.2.2)], Item.own v7 (x4.1 : (List Int)), Item.box b2 [v5, (.int .i64 x3.1.2.1), (.int .i64 x3.1.2.2)], Item.own v5 (x3.1.1 : (List Int)), Item.box b1 [u1, (.int .i64 a1.2.1), (.int .i64 a1.2.2)], Item.box b4 [v10, (.int .i64 x5.1.2.1), (.int .i64 x5.1.2.2)], Item.own v10 (x5.1.1 : (List Int)), Item.own v2 (x2.1 : (List Int))] := hC30.front 6 rfl
        have hC32 : Ctx [] w0 _ [Item.own v10 (x5.1.1 : (List Int)), Item.box b3 [v7, (.int .i64 x4.2.1), (.int .i64 x4.2.2)], Item.own v7 (x4.1 : (List Int)), Item.box b2 [v5, (.int .i64 x3.1.2.1), (.int .i64 x3.1.2.2)], Item.own v5 (x3.1.1 : (List Int)), Item.box b1 [u1, (.int .i64 a1.2.1), (.int .i64 a1.2.2)], Item.box b4 [v10, (.int .i64 x5.1.2.1), (.int .i64 x5.1.2.2)], Item.own v2 (x2.1 : (List Int))] := hC31.front 6 rfl
        have hC33 : Ctx [] w0 _ [Item.box b4 [v10, (.int .i64 x5.1.2.1), (.int .i64 x5.1.2.2)], Item.own v10 (x5.1.1 : (List Int)), Item.box b3 [v7, (.int .i64 x4.2.1), (.int .i64 x4.2.2)], Item.own v7 (x4.1 : (List Int)), Item.box b2 [v5, (.int .i64 x3.1.2.1), (.int .i64 x3.1.2.2)], Item.own v5 (x3.1.1 : (List Int)), Item.box b1 [u1, (.int .i64 a1.2.1), (.int .i64 a1.2.2)], Item.own v2 (x2.1 : (List Int))] := hC32.front 6 rfl
        have hC34 : Ctx [] w0 _ [Item.box b4 [v10, (.int .i64 x5.1.2.1), (.int .i64 x5.1.2.2)], Item.own v10 (x5.1.1 : (List Int)), Item.box b3 [v7, (.int .i64 x4.2.1), (.int .i64 x4.2.2)], Item.own v7 (x4.1 : (List Int)), Item.box b2 [v5, (.int .i64 x3.1.2.1), (.int .i64 x3.1.2.2)], Item.own v5 (x3.1.1 : (List Int)), Item.box b1 [u1, (.int .i64 a1.2.1), (.int .i64 a1.2.2)]] := hC33.headN 7
        refine nrm_sub (l' := [(1, (.int .i64 a2)), (2, (.int .i64 a3)), (3, (ptr b1 0)), (8, (ptr b2 0)), (9, (.bool x3.2)), (10, (ptr b3 0)), (11, (ptr b4 0)), (12, (.bool x5.2)), (48, (.bool (!decide (x5.2 = x3.2))))]) ⟨rfl, rfl, rfl, rfl, rfl, rfl, rfl, rfl, rfl, trivial⟩ ?_
        exact ⟨(!decide (x5.2 = x3.2)), rfl, rfl, (Keep.of hB11).below, hC34⟩
    · rintro _ w13 ⟨x6, rfl, rfl, hB10, hC17⟩
      try dsimp only at hF
      refine W_cond rfl (fun hc3 => ?_) (fun hc3 => ?_)
      · replace hF := ite_t hF hc3
        refine W_seq_reg ?_
        refine WL_assign rfl rfl ?_
        refine WL_nil ?_
        refine W_ret ?_
        refine nrm_ret ?_
        have hq4 := Option.some.inj hF
        subst hq4
        refine fn_ret1 rfl rfl ?_
        exact ⟨_, rfl, bool_res hC17 _⟩
      · replace hF := ite_f hF hc3
        refine W_skip ?_
        refine nrm_normal ?_
        refine W_seq ?_
        refine W_seq ?_
        refine W_drawn 5 rfl hmix (fun w15 hB12 => ?_)
        have hC35 := hC17.grow hB12
        obtain ⟨x8, hr8, hF⟩ := bind_some hF
        refine WA.sub (l' := [(1, (.int .i64 a2)), (2, (.int .i64 a3)), (3, (ptr b1 0)), (8, (ptr b2 0)), (9, (.bool x3.2)), (10, (ptr b3 0)), (11, (ptr b4 0)), (12, (.bool x5.2)), (48, (.bool x6))]) ?_ ⟨rfl, rfl, rfl, rfl, rfl, rfl, rfl, rfl, rfl, trivial⟩
        refine WA_postsE [⟨0, [], fun vs => PW.val (.agg #[v7, (.int .i64 x4.2.1), (.int .i64 x4.2.2)]), []⟩, ⟨1, [], fun vs => PW.val (.agg #[u1, (.int .i64 a1.2.1), (.int .i64 a1.2.2)]), []⟩, ⟨2, [], fun vs => PW.own x8, []⟩] [[], [], [1]] 2 rfl (by kernel_rfl) (by kernel_rfl) rfl ?_ ?_
        · refine StepsE_cons rfl ?_ ?_
          · intro w17 hB14
            refine DepsE_nil ?_
            refine ⟨_, rfl, ?_⟩
            refine WL_load_box_agg [v7, (.int .i64 x4.2.1), (.int .i64 x4.2.2)] (hC35.grow hB14) 2 rfl rfl rfl Try.isAgg26 Try.sizeOf26 rfl rfl ?_
            refine WL_nil ?_
            exact FinE_val (Below.refl _ _) rfl rfl ⟨rfl, rfl⟩
          refine StepsE_cons rfl ?_ ?_
          · intro w17 hB14
            refine DepsE_nil ?_
            refine ⟨_, rfl, ?_⟩
            refine WL_load_box_agg [u1, (.int .i64 a1.2.1), (.int .i64 a1.2.2)] (hC35.grow hB14) 6 rfl rfl rfl Try.isAgg24 Try.sizeOf24 rfl rfl ?_
            refine WL_nil ?_
            exact FinE_val (Below.refl _ _) rfl rfl ⟨rfl, rfl⟩
          refine StepsE_cons rfl ?_ ?_
          · intro w17 hB14
            refine DepsE_cons rfl rfl rfl ?_
            rintro _ _ ⟨rfl, rfl⟩ _
            refine DepsE_nil ?_
            refine ⟨_, rfl, ?_⟩
            refine WL_call Try.call17 rfl rfl (c_Q_toLedger (a1.1, a1.2.1, a1.2.2) u1 (g1.now (hC35.keep.then hB14)) x8 hr8) ?_
            rintro v11 w16 ⟨hB13, F7, hv9, hn5, hb5⟩
            refine WL_nil ?_
            exact FinE_own hB13 rfl rfl hv9 hn5 hb5 (Val.inh hv9)
          exact StepsE_nil
        · intro w18 hB15
          refine AllE_cons rfl rfl rfl ?_
          rintro _ _ ⟨rfl, rfl⟩
          refine AllE_cons rfl rfl rfl ?_
          rintro _ _ ⟨rfl, rfl⟩
          refine AllE_cons rfl rfl rfl ?_
          intro v11 F7 hv9
          refine AllE_nil ?_
          intro hn6 hb6
          have hC36 := hC35.pushL hB15 (Bs := [Item.own v11 (x8 : ((List Int) × Int × Int))]) (Fs := [F7]) ⟨F7, _, rfl, hv9, rfl⟩ (by simpa using hn6) (fun b h => (hb6 b (by simpa using h)).1)
          obtain ⟨v13, rfl, hC37⟩ := st26_own hC36
          obtain ⟨x9, hr9, hF⟩ := bind_some hF
          refine WA_one 3 (by kernel_rfl) rfl ?_
          refine WL_call Try.call19 rfl rfl (c_Q_eqLedger (x4.1, x4.2.1, x4.2.2) v7 ((hC37.ro 4 rfl).now (Keep.refl _ _)) x8 v13 ((hC37.ro 0 rfl).now (Keep.refl _ _)) x9 hr9) ?_
          intro _ w19 hv10
          obtain ⟨rfl, hB16⟩ := res_bool hv10
          have hC38 := hC37.grow hB16
          refine WL_nil ?_
          refine WA_take 4 rfl (by kernel_rfl) (by kernel_rfl) (by kernel_rfl) rfl (fl_not rfl) ?_
          refine WL_not rfl rfl ?_
          refine WL_nil ?_
          refine WA_done (by kernel_rfl) ?_
          refine nrm_normal ?_
          refine W_cond rfl (fun hc4 => ?_) (fun hc4 => ?_)
          · replace hF := ite_t hF hc4
            refine W_seq_reg ?_
            refine WL_assign rfl rfl ?_
            refine WL_nil ?_
            refine W_ret ?_
            refine nrm_ret ?_
            have hq5 := Option.some.inj hF
            subst hq5
            refine fn_ret1 rfl rfl ?_
            exact ⟨_, rfl, bool_res hC38 _⟩
          · replace hF := ite_f hF hc4
            refine W_skip ?_
            refine nrm_normal ?_
            refine W_seq_reg ?_
            refine WL_assign rfl rfl ?_
            refine WL_nil ?_
            refine W_seq_reg ?_
            refine WL_load_box_agg [v7, (.int .i64 x4.2.1), (.int .i64 x4.2.2)] hC38 3 rfl rfl rfl Try.isAgg26 Try.sizeOf26 rfl rfl ?_
            refine WL_move rfl rfl ?_
            obtain ⟨x10, hr10, hF⟩ := bind_some hF
            have hC39 : Ctx [] w0 _ [Item.own v7 (x4.1 : (List Int)), Item.own v13 (x8.1 : (List Int)), Item.box b4 [v10, (.int .i64 x5.1.2.1), (.int .i64 x5.1.2.2)], Item.own v10 (x5.1.1 : (List Int)), Item.box b3 [v7, (.int .i64 x4.2.1), (.int .i64 x4.2.2)], Item.box b2 [v5, (.int .i64 x3.1.2.1), (.int .i64 x3.1.2.2)], Item.own v5 (x3.1.1 : (List Int)), Item.box b1 [u1, (.int .i64 a1.2.1), (.int .i64 a1.2.2)]] := hC38.front 4 rfl
            obtain ⟨Fs1, hH1, hn7, hF1, hO1, hb7⟩ := Ctx.lend2 (As := [Item.own v13 (x8.1 : (List Int)), Item.box b4 [v10, (.int .i64 x5.1.2.1), (.int .i64 x5.1.2.2)], Item.own v10 (x5.1.1 : (List Int)), Item.box b3 [v7, (.int .i64 x4.2.1), (.int .i64 x4.2.2)], Item.box b2 [v5, (.int .i64 x3.1.2.1), (.int .i64 x3.1.2.2)], Item.own v5 (x3.1.1 : (List Int)), Item.box b1 [u1, (.int .i64 a1.2.1), (.int .i64 a1.2.2)]]) [Item.own v7 (x4.1 : (List Int))] hC39
            refine WL_call Try.call20 rfl rfl (c_Q_markLedger (x4.1, x4.2.1, x4.2.2) v7 1 hH1 hn7 x10 hr10) ?_
            rintro _ w20 ⟨rfl, hq6⟩
            have hC40 : Ctx [] w0 w20 [Item.own v7 (x10.2.1 : (List Int)), Item.own v13 (x8.1 : (List Int)), Item.box b4 [v10, (.int .i64 x5.1.2.1), (.int .i64 x5.1.2.2)], Item.own v10 (x5.1.1 : (List Int)), Item.box b3 [v7, (.int .i64 x4.2.1), (.int .i64 x4.2.2)], Item.box b2 [v5, (.int .i64 x3.1.2.1), (.int .i64 x3.1.2.2)], Item.own v5 (x3.1.1 : (List Int)), Item.box b1 [u1, (.int .i64 a1.2.1), (.int .i64 a1.2.2)]] := hb7 _ _ hq6
            refine WL_assign rfl rfl ?_
            refine WL_nil ?_
            refine W_seq ?_
            obtain ⟨r2, hr11, hF⟩ := bind_some hF
            refine W_cut (fun l w => ∃ x11 : Bool, x11 = r2 ∧ l = [(1, (.int .i64 a2)), (2, (.int .i64 a3)), (3, (ptr b1 0)), (8, (ptr b2 0)), (9, (.bool x3.2)), (11, (ptr b4 0)), (69, (.bool x11))] ∧ Below w20.heap.size w20 w ∧ Ctx [] w0 w [Item.box b4 [v10, (.int .i64 x5.1.2.1), (.int .i64 x5.1.2.2)], Item.own v10 (x5.1.1 : (List Int)), Item.box b2 [v5, (.int .i64 x3.1.2.1), (.int .i64 x3.1.2.2)], Item.own v5 (x3.1.1 : (List Int)), Item.box b1 [u1, (.int .i64 a1.2.1), (.int .i64 a1.2.2)]]) ?_ ?_
            · refine W_reg ?_
              refine WL_move rfl rfl ?_
              refine WL_lss rfl rfl rfl ?_
              refine WL_move rfl rfl ?_
              refine WL_fork (fun hc5 => ?_) (fun hc5 => ?_)
              · replace hr11 := ite_t hr11 hc5
                refine WL_guard_skip rfl rfl (by simp) rfl ?_
                refine WL_guard_skip rfl rfl (by simp) rfl ?_
                refine WL_guard_skip rfl rfl (by simp) rfl ?_
                refine WL_guard_skip rfl rfl (by simp) rfl ?_
                refine WL_pick_t rfl rfl rfl ?_
                refine WL_move rfl rfl ?_
                refine WL_guard_skip rfl rfl (by simp) rfl ?_
                refine WL_guard_skip rfl rfl (by simp) rfl ?_
                refine WL_guard_skip rfl rfl (by simp) rfl ?_
                refine WL_pick_t rfl rfl rfl ?_
                refine WL_nil ?_
                have hq7 := Option.some.inj hr11
                subst hq7
                have hC42 : Ctx [] w0 _ [Item.box b1 [u1, (.int .i64 a1.2.1), (.int .i64 a1.2.2)], Item.own v7 (x10.2.1 : (List Int)), Item.own v13 (x8.1 : (List Int)), Item.box b4 [v10, (.int .i64 x5.1.2.1), (.int .i64 x5.1.2.2)], Item.own v10 (x5.1.1 : (List Int)), Item.box b3 [v7, (.int .i64 x4.2.1), (.int .i64 x4.2.2)], Item.box b2 [v5, (.int .i64 x3.1.2.1), (.int .i64 x3.1.2.2)], Item.own v5 (x3.1.1 : (List Int))] := hC40.front 7 rfl
                have hC43 : Ctx [] w0 _ [Item.own v5 (x3.1.1 : (List Int)), Item.box b1 [u1, (.int .i64 a1.2.1), (.int .i64 a1.2.2)], Item.own v7 (x10.2.1 : (List Int)), Item.own v13 (x8.1 : (List Int)), Item.box b4 [v10, (.int .i64 x5.1.2.1), (.int .i64 x5.1.2.2)], Item.own v10 (x5.1.1 : (List Int)), Item.box b3 [v7, (.int .i64 x4.2.1), (.int .i64 x4.2.2)], Item.box b2 [v5, (.int .i64 x3.1.2.1), (.int .i64 x3.1.2.2)]] := hC42.front 7 rfl
                have hC44 : Ctx [] w0 _ [Item.box b2 [v5, (.int .i64 x3.1.2.1), (.int .i64 x3.1.2.2)], Item.own v5 (x3.1.1 : (List Int)), Item.box b1 [u1, (.int .i64 a1.2.1), (.int .i64 a1.2.2)], Item.own v7 (x10.2.1 : (List Int)), Item.own v13 (x8.1 : (List Int)), Item.box b4 [v10, (.int .i64 x5.1.2.1), (.int .i64 x5.1.2.2)], Item.own v10 (x5.1.1 : (List Int)), Item.box b3 [v7, (.int .i64 x4.2.1), (.int .i64 x4.2.2)]] := hC43.front 7 rfl
                have hC45 : Ctx [] w0 _ [Item.own v10 (x5.1.1 : (List Int)), Item.box b2 [v5, (.int .i64 x3.1.2.1), (.int .i64 x3.1.2.2)], Item.own v5 (x3.1.1 : (List Int)), Item.box b1 [u1, (.int .i64 a1.2.1), (.int .i64 a1.2.2)], Item.own v7 (x10.2.1 : (List Int)), Item.own v13 (x8.1 : (List Int)), Item.box b4 [v10, (.int .i64 x5.1.2.1), (.int .i64 x5.1.2.2)], Item.box b3 [v7, (.int .i64 x4.2.1), (.int .i64 x4.2.2)]] := hC44.front 6 rfl
                have hC46 : Ctx [] w0 _ [Item.box b4 [v10, (.int .i64 x5.1.2.1), (.int .i64 x5.1.2.2)], Item.own v10 (x5.1.1 : (List Int)), Item.box b2 [v5, (.int .i64 x3.1.2.1), (.int .i64 x3.1.2.2)], Item.own v5 (x3.1.1 : (List Int)), Item.box b1 [u1, (.int .i64 a1.2.1), (.int .i64 a1.2.2)], Item.own v7 (x10.2.1 : (List Int)), Item.own v13 (x8.1 : (List Int)), Item.box b3 [v7, (.int .i64 x4.2.1), (.int .i64 x4.2.2)]] := hC45.front 6 rfl
                have hC47 : Ctx [] w0 _ [Item.box b4 [v10, (.int .i64 x5.1.2.1), (.int .i64 x5.1.2.2)], Item.own v10 (x5.1.1 : (List Int)), Item.box b2 [v5, (.int .i64 x3.1.2.1), (.int .i64 x3.1.2.2)], Item.own v5 (x3.1.1 : (List Int)), Item.box b1 [u1, (.int .i64 a1.2.1), (.int .i64 a1.2.2)]] := hC46.headN 5
                refine nrm_sub (l' := [(1, (.int .i64 a2)), (2, (.int .i64 a3)), (3, (ptr b1 0)), (8, (ptr b2 0)), (9, (.bool x3.2)), (11, (ptr b4 0)), (69, (.bool true))]) ⟨rfl, rfl, rfl, rfl, rfl, rfl, rfl, trivial⟩ ?_
                exact ⟨true, rfl, rfl, (Below.refl _ _), hC47⟩
              · replace hr11 := ite_f hr11 hc5
                refine WL_guard rfl rfl ?_
                refine WL_load_box_agg [v10, (.int .i64 x5.1.2.1), (.int .i64 x5.1.2.2)] hC40 2 rfl rfl rfl Try.isAgg26 Try.sizeOf26 rfl rfl ?_
                refine WL_guard rfl rfl ?_
                refine WL_load_box_agg [v5, (.int .i64 x3.1.2.1), (.int .i64 x3.1.2.2)] hC40 5 rfl rfl rfl Try.isAgg26 Try.sizeOf26 rfl rfl ?_
                obtain ⟨x12, hr12, hr11⟩ := bind_some hr11
                refine WL_guard rfl rfl ?_
                refine WL_call Try.call19 rfl rfl (c_Q_eqLedger (x5.1.1, x5.1.2.1, x5.1.2.2) v10 ((hC40.ro 3 rfl).now (Keep.refl _ _)) (x3.1.1, x3.1.2.1, x3.1.2.2) v5 ((hC40.ro 6 rfl).now (Keep.refl _ _)) x12 hr12) ?_
                intro _ w22 hv11
                obtain ⟨rfl, hB18⟩ := res_bool hv11
                have hC48 := hC40.grow hB18
                refine WL_guard rfl rfl ?_
                refine WL_not rfl rfl ?_
                refine WL_pick_f rfl rfl rfl ?_
                refine WL_move rfl rfl ?_
                refine WL_fork (fun hc6 => ?_) (fun hc6 => ?_)
                · replace hr11 := ite_t hr11 hc6
                  refine WL_guard_skip rfl rfl (by simp) rfl ?_
                  refine WL_guard_skip rfl rfl (by simp) rfl ?_
                  refine WL_guard_skip rfl rfl (by simp) rfl ?_
                  refine WL_pick_t rfl rfl rfl ?_
                  refine WL_nil ?_
                  have hq8 := Option.some.inj hr11
                  subst hq8
                  have hC49 : Ctx [] w0 _ [Item.box b1 [u1, (.int .i64 a1.2.1), (.int .i64 a1.2.2)], Item.own v7 (x10.2.1 : (List Int)), Item.own v13 (x8.1 : (List Int)), Item.box b4 [v10, (.int .i64 x5.1.2.1), (.int .i64 x5.1.2.2)], Item.own v10 (x5.1.1 : (List Int)), Item.box b3 [v7, (.int .i64 x4.2.1), (.int .i64 x4.2.2)], Item.box b2 [v5, (.int .i64 x3.1.2.1), (.int .i64 x3.1.2.2)], Item.own v5 (x3.1.1 : (List Int))] := hC48.front 7 rfl
                  have hC50 : Ctx [] w0 _ [Item.own v5 (x3.1.1 : (List Int)), Item.box b1 [u1, (.int .i64 a1.2.1), (.int .i64 a1.2.2)], Item.own v7 (x10.2.1 : (List Int)), Item.own v13 (x8.1 : (List Int)), Item.box b4 [v10, (.int .i64 x5.1.2.1), (.int .i64 x5.1.2.2)], Item.own v10 (x5.1.1 : (List Int)), Item.box b3 [v7, (.int .i64 x4.2.1), (.int .i64 x4.2.2)], Item.box b2 [v5, (.int .i64 x3.1.2.1), (.int .i64 x3.1.2.2)]] := hC49.front 7 rfl
                  have hC51 : Ctx [] w0 _ [Item.box b2 [v5, (.int .i64 x3.1.2.1), (.int .i64 x3.1.2.2)], Item.own v5 (x3.1.1 : (List Int)), Item.box b1 [u1, (.int .i64 a1.2.1), (.int .i64 a1.2.2)], Item.own v7 (x10.2.1 : (List Int)), Item.own v13 (x8.1 : (List Int)), Item.box b4 [v10, (.int .i64 x5.1.2.1), (.int .i64 x5.1.2.2)], Item.own v10 (x5.1.1 : (List Int)), Item.box b3 [v7, (.int .i64 x4.2.1), (.int .i64 x4.2.2)]] := hC50.front 7 rfl
                  have hC52 : Ctx [] w0 _ [Item.own v10 (x5.1.1 : (List Int)), Item.box b2 [v5, (.int .i64 x3.1.2.1), (.int .i64 x3.1.2.2)], Item.own v5 (x3.1.1 : (List Int)), Item.box b1 [u1, (.int .i64 a1.2.1), (.int .i64 a1.2.2)], Item.own v7 (x10.2.1 : (List Int)), Item.own v13 (x8.1 : (List Int)), Item.box b4 [v10, (.int .i64 x5.1.2.1), (.int .i64 x5.1.2.2)], Item.box b3 [v7, (.int .i64 x4.2.1), (.int .i64 x4.2.2)]] := hC51.front 6 rfl
                  have hC53 : Ctx [] w0 _ [Item.box b4 [v10, (.int .i64 x5.1.2.1), (.int .i64 x5.1.2.2)], Item.own v10 (x5.1.1 : (List Int)), Item.box b2 [v5, (.int .i64 x3.1.2.1), (.int .i64 x3.1.2.2)], Item.own v5 (x3.1.1 : (List Int)), Item.box b1 [u1, (.int .i64 a1.2.1), (.int .i64 a1.2.2)], Item.own v7 (x10.2.1 : (List Int)), Item.own v13 (x8.1 : (List Int)), Item.box b3 [v7, (.int .i64 x4.2.1), (.int .i64 x4.2.2)]] := hC52.front 6 rfl
                  have hC54 : Ctx [] w0 _ [Item.box b4 [v10, (.int .i64 x5.1.2.1), (.int .i64 x5.1.2.2)], Item.own v10 (x5.1.1 : (List Int)), Item.box b2 [v5, (.int .i64 x3.1.2.1), (.int .i64 x3.1.2.2)], Item.own v5 (x3.1.1 : (List Int)), Item.box b1 [u1, (.int .i64 a1.2.1), (.int .i64 a1.2.2)]] := hC53.headN 5
                  refine nrm_sub (l' := [(1, (.int .i64 a2)), (2, (.int .i64 a3)), (3, (ptr b1 0)), (8, (ptr b2 0)), (9, (.bool x3.2)), (11, (ptr b4 0)), (69, (.bool true))]) ⟨rfl, rfl, rfl, rfl, rfl, rfl, rfl, trivial⟩ ?_
                  exact ⟨true, rfl, rfl, (Keep.of hB18).below, hC54⟩
                · replace hr11 := ite_f hr11 hc6
                  refine WL_guard rfl rfl ?_
                  refine WL_move rfl rfl ?_
                  refine WL_guard rfl rfl ?_
                  refine WL_move rfl rfl ?_
                  refine WL_guard rfl rfl ?_
                  refine WL_bool_neq Try.underlying4 rfl rfl rfl ?_
                  refine WL_pick_f rfl rfl rfl ?_
                  refine WL_nil ?_
                  have hq9 := Option.some.inj hr11
                  subst hq9
                  have hC55 : Ctx [] w0 _ [Item.box b1 [u1, (.int .i64 a1.2.1), (.int .i64 a1.2.2)], Item.own v7 (x10.2.1 : (List Int)), Item.own v13 (x8.1 : (List Int)), Item.box b4 [v10, (.int .i64 x5.1.2.1), (.int .i64 x5.1.2.2)], Item.own v10 (x5.1.1 : (List Int)), Item.box b3 [v7, (.int .i64 x4.2.1), (.int .i64 x4.2.2)], Item.box b2 [v5, (.int .i64 x3.1.2.1), (.int .i64 x3.1.2.2)], Item.own v5 (x3.1.1 : (List Int))] := hC48.front 7 rfl
                  have hC56 : Ctx [] w0 _ [Item.own v5 (x3.1.1 : (List Int)), Item.box b1 [u1, (.int .i64 a1.2.1), (.int .i64 a1.2.2)], Item.own v7 (x10.2.1 : (List Int)), Item.own v13 (x8.1 : (List Int)), Item.box b4 [v10, (.int .i64 x5.1.2.1), (.int .i64 x5.1.2.2)], Item.own v10 (x5.1.1 : (List Int)), Item.box b3 [v7, (.int .i64 x4.2.1), (.int .i64 x4.2.2)], Item.box b2 [v5, (.int .i64 x3.1.2.1), (.int .i64 x3.1.2.2)]] := hC55.front 7 rfl
                  have hC57 : Ctx [] w0 _ [Item.box b2 [v5, (.int .i64 x3.1.2.1), (.int .i64 x3.1.2.2)], Item.own v5 (x3.1.1 : (List Int)), Item.box b1 [u1, (.int .i64 a1.2.1), (.int .i64 a1.2.2)], Item.own v7 (x10.2.1 : (List Int)), Item.own v13 (x8.1 : (List Int)), Item.box b4 [v10, (.int .i64 x5.1.2.1), (.int .i64 x5.1.2.2)], Item.own v10 (x5.1.1 : (List Int)), Item.box b3 [v7, (.int .i64 x4.2.1), (.int .i64 x4.2.2)]] := hC56.front 7 rfl
                  have hC58 : Ctx [] w0 _ [Item.own v10 (x5.1.1 : (List Int)), Item.box b2 [v5, (.int .i64 x3.1.2.1), (.int .i64 x3.1.2.2)], Item.own v5 (x3.1.1 : (List Int)), Item.box b1 [u1, (.int .i64 a1.2.1), (.int .i64 a1.2.2)], Item.own v7 (x10.2.1 : (List Int)), Item.own v13 (x8.1 : (List Int)), Item.box b4 [v10, (.int .i64 x5.1.2.1), (.int .i64 x5.1.2.2)], Item.box b3 [v7, (.int .i64 x4.2.1), (.int .i64 x4.2.2)]] := hC57.front 6 rfl
                  have hC59 : Ctx [] w0 _ [Item.box b4 [v10, (.int .i64 x5.1.2.1), (.int .i64 x5.1.2.2)], Item.own v10 (x5.1.1 : (List Int)), Item.box b2 [v5, (.int .i64 x3.1.2.1), (.int .i64 x3.1.2.2)], Item.own v5 (x3.1.1 : (List Int)), Item.box b1 [u1, (.int .i64 a1.2.1), (.int .i64 a1.2.2)], Item.own v7 (x10.2.1 : (List Int)), Item.own v13 (x8.1 : (List Int)), Item.box b3 [v7, (.int .i64 x4.2.1), (.int .i64 x4.2.2)]] := hC58.front 6 rfl
                  have hC60 : Ctx [] w0 _ [Item.box b4 [v10, (.int .i64 x5.1.2.1), (.int .i64 x5.1.2.2)], Item.own v10 (x5.1.1 : (List Int)), Item.box b2 [v5, (.int .i64 x3.1.2.1), (.int .i64 x3.1.2.2)], Item.own v5 (x3.1.1 : (List Int)), Item.box b1 [u1, (.int .i64 a1.2.1), (.int .i64 a1.2.2)]] := hC59.headN 5
                  refine nrm_sub (l' := [(1, (.int .i64 a2)), (2, (.int .i64 a3)), (3, (ptr b1 0)), (8, (ptr b2 0)), (9, (.bool x3.2)), (11, (ptr b4 0)), (69, (.bool (!decide (x5.2 = x3.2))))]) ⟨rfl, rfl, rfl, rfl, rfl, rfl, rfl, trivial⟩ ?_
                  exact ⟨(!decide (x5.2 = x3.2)), rfl, rfl, (Keep.of hB18).below, hC60⟩
            · rintro _ w21 ⟨x11, rfl, rfl, hB17, hC41⟩
              try dsimp only at hF
              refine W_cond rfl (fun hc7 => ?_) (fun hc7 => ?_)
              · replace hF := ite_t hF hc7
                refine W_seq_reg ?_
                refine WL_assign rfl rfl ?_
                refine WL_nil ?_
                refine W_ret ?_
                refine nrm_ret ?_
                have hq10 := Option.some.inj hF
                subst hq10
                refine fn_ret1 rfl rfl ?_
                exact ⟨_, rfl, bool_res hC41 _⟩
              · replace hF := ite_f hF hc7
                refine W_skip ?_
                refine nrm_normal ?_
                refine W_seq_reg ?_
                refine WL_assign rfl rfl ?_
                refine WL_nil ?_
                refine W_seq_reg ?_
                refine WL_load_box_agg [v10, (.int .i64 x5.1.2.1), (.int .i64 x5.1.2.2)] hC41 0 rfl rfl rfl Try.isAgg26 Try.sizeOf26 rfl rfl ?_
                refine WL_move rfl rfl ?_
                obtain ⟨x13, hr13, hF⟩ := bind_some hF
                have hC61 : Ctx [] w0 _ [Item.own v10 (x5.1.1 : (List Int)), Item.box b4 [v10, (.int .i64 x5.1.2.1), (.int .i64 x5.1.2.2)], Item.box b2 [v5, (.int .i64 x3.1.2.1), (.int .i64 x3.1.2.2)], Item.own v5 (x3.1.1 : (List Int)), Item.box b1 [u1, (.int .i64 a1.2.1), (.int .i64 a1.2.2)]] := hC41.front 1 rfl
                obtain ⟨Fs2, hH2, hn8, hF2, hO2, hb8⟩ := Ctx.lend2 (As := [Item.box b4 [v10, (.int .i64 x5.1.2.1), (.int .i64 x5.1.2.2)], Item.box b2 [v5, (.int .i64 x3.1.2.1), (.int .i64 x3.1.2.2)], Item.own v5 (x3.1.1 : (List Int)), Item.box b1 [u1, (.int .i64 a1.2.1), (.int .i64 a1.2.2)]]) [Item.own v10 (x5.1.1 : (List Int))] hC61
                refine WL_call Try.call20 rfl rfl (c_Q_markLedger (x5.1.1, x5.1.2.1, x5.1.2.2) v10 1 hH2 hn8 x13 hr13) ?_
                rintro _ w23 ⟨rfl, hq11⟩
                have hC62 : Ctx [] w0 w23 [Item.own v10 (x13.2.1 : (List Int)), Item.box b4 [v10, (.int .i64 x5.1.2.1), (.int .i64 x5.1.2.2)], Item.box b2 [v5, (.int .i64 x3.1.2.1), (.int .i64 x3.1.2.2)], Item.own v5 (x3.1.1 : (List Int)), Item.box b1 [u1, (.int .i64 a1.2.1), (.int .i64 a1.2.2)]] := hb8 _ _ hq11
                refine WL_assign rfl rfl ?_
                refine WL_nil ?_
                refine W_seq_reg ?_
                refine WL_assign rfl rfl ?_
                refine WL_nil ?_
                refine W_seq_reg ?_
                refine WL_load_box_agg [v10, (.int .i64 x5.1.2.1), (.int .i64 x5.1.2.2)] hC62 1 rfl rfl rfl Try.isAgg26 Try.sizeOf26 rfl rfl ?_
                refine WL_move rfl rfl ?_
                obtain ⟨x14, hr14, hF⟩ := bind_some hF
                refine WL_call Try.call21 rfl rfl (c_Q_heldLedger (x13.2.1, x5.1.2.1, x5.1.2.2) v10 ((hC62.ro 0 rfl).now (Keep.refl _ _)) 1 x14 hr14) ?_
                intro _ w24 hv12
                obtain ⟨rfl, hB19⟩ := res_int hv12
                have hC63 := hC62.grow hB19
                refine WL_assign rfl rfl ?_
                refine WL_nil ?_
                refine W_seq ?_
                refine W_seq_reg ?_
                refine WL_move rfl rfl ?_
                refine WL_lss rfl rfl rfl ?_
                refine WL_nil ?_
                refine W_cond rfl (fun hc8 => ?_) (fun hc8 => ?_)
                · replace hF := ite_t hF hc8
                  refine W_seq_reg ?_
                  refine WL_assign rfl rfl ?_
                  refine WL_nil ?_
                  refine W_ret ?_
                  refine nrm_ret ?_
                  have hq12 := Option.some.inj hF
                  subst hq12
                  refine fn_ret1 rfl rfl ?_
                  exact ⟨_, rfl, bool_res hC63 _⟩
                · replace hF := ite_f hF hc8
                  refine W_skip ?_
                  refine nrm_normal ?_
                  refine W_seq ?_
                  refine W_seq_reg ?_
                  refine WL_move rfl rfl ?_
                  refine WL_move rfl rfl ?_
                  refine WL_neq rfl rfl rfl ?_
                  refine WL_nil ?_
                  refine W_cond rfl (fun hc9 => ?_) (fun hc9 => ?_)
                  · replace hF := ite_t hF hc9
                    refine W_seq_reg ?_
                    refine WL_assign rfl rfl ?_
                    refine WL_nil ?_
                    refine W_ret ?_
                    refine nrm_ret ?_
                    have hq13 := Option.some.inj hF
                    subst hq13
                    refine fn_ret1 rfl rfl ?_
                    exact ⟨_, rfl, bool_res hC63 _⟩
                  · replace hF := ite_f hF hc9
                    refine W_skip ?_
                    refine nrm_normal ?_
                    refine W_seq_reg ?_
                    refine WL_load_box_agg [u1, (.int .i64 a1.2.1), (.int .i64 a1.2.2)] hC63 4 rfl rfl rfl Try.isAgg24 Try.sizeOf24 rfl rfl ?_
                    obtain ⟨x15, hr15, hF⟩ := bind_some hF
                    refine WL_call Try.call17 rfl rfl (c_Q_toLedger (a1.1, a1.2.1, a1.2.2) u1 (g1.now hC63.keep) x15 hr15) ?_
                    rintro v14 w25 ⟨hB20, F8, hv13, hn9, hb9⟩
                    have hC64 := hC63.push hB20 (A := Item.own v14 x15) hv13 hn9 hb9
                    obtain ⟨v15, rfl, hC65⟩ := st26_own hC64
                    refine WL_move rfl rfl ?_
                    refine WL_move rfl rfl ?_
                    obtain ⟨x16, hr16, hF⟩ := bind_some hF
                    refine WL_call Try.call18 rfl rfl (c_M_ReceiveCall x15 v15 ((hC65.ro 0 rfl).now (Keep.refl _ _)) a2 a3 x16 hr16) ?_
                    rintro _ w26 ⟨hB21, v16, v17, F9, F10, rfl, hv14, hv15, hn10, hb10⟩
                    obtain ⟨rfl, rfl⟩ := val_bool hv15
                    have hC66 := hC65.pushL hB21 (Bs := [Item.own v16 x16.1]) (Fs := [F9]) ⟨F9, _, rfl, hv14, rfl⟩ (by simpa using hn10) (fun b h => hb10 b (by simpa using h))
                    obtain ⟨v18, rfl, hC67⟩ := st26_own hC66
                    refine WL_move rfl rfl ?_
                    refine WL_extract rfl rfl rfl ?_
                    refine WL_extract rfl rfl rfl ?_
                    refine WL_alloc hC67 zero26 rfl rfl (fun b5 w27 hC68 hB22 => ?_)
                    refine WL_store_box_agg (cs' := [v18, (.int .i64 x16.1.2.1), (.int .i64 x16.1.2.2)]) (new := [v18, (.int .i64 x16.1.2.1), (.int .i64 x16.1.2.2)]) hC68 0 rfl rfl (by intro v hv; simp only [List.mem_cons, List.not_mem_nil, or_false] at hv; rcases hv with rfl | rfl | rfl; exact (ro_one (hC68.ro 1 rfl)); exact rfl; exact rfl) rfl Try.sizeOf26 rfl rfl (fun w28 hC69 => ?_)
                    try dsimp only [List.set] at hC69
                    refine WL_assign rfl rfl ?_
                    refine WL_nil ?_
                    refine W_seq ?_
                    obtain ⟨r3, hr17, hF⟩ := bind_some hF
                    refine W_cut (fun l w => ∃ x17 : Bool, x17 = r3 ∧ l = [(11, (ptr b4 0)), (14, (.int .i64 x13.1)), (97, (.bool x17))] ∧ Below w28.heap.size w28 w ∧ Ctx [] w0 w [Item.own v10 (x13.2.1 : (List Int)), Item.box b4 [v10, (.int .i64 x5.1.2.1), (.int .i64 x5.1.2.2)]]) ?_ ?_
                    · refine W_reg ?_
                      refine WL_load_box_agg [v18, (.int .i64 x16.1.2.1), (.int .i64 x16.1.2.2)] hC69 0 rfl rfl rfl Try.isAgg26 Try.sizeOf26 rfl rfl ?_
                      refine WL_load_box_agg [v5, (.int .i64 x3.1.2.1), (.int .i64 x3.1.2.2)] hC69 5 rfl rfl rfl Try.isAgg26 Try.sizeOf26 rfl rfl ?_
                      obtain ⟨x18, hr18, hr17⟩ := bind_some hr17
                      refine WL_call Try.call19 rfl rfl (c_Q_eqLedger (x16.1.1, x16.1.2.1, x16.1.2.2) v18 ((hC69.ro 1 rfl).now (Keep.refl _ _)) (x3.1.1, x3.1.2.1, x3.1.2.2) v5 ((hC69.ro 6 rfl).now (Keep.refl _ _)) x18 hr18) ?_
                      intro _ w30 hv16
                      obtain ⟨rfl, hB24⟩ := res_bool hv16
                      have hC71 := hC69.grow hB24
                      refine WL_not rfl rfl ?_
                      refine WL_move rfl rfl ?_
                      refine WL_fork (fun hc10 => ?_) (fun hc10 => ?_)
                      · replace hr17 := ite_t hr17 hc10
                        refine WL_guard_skip rfl rfl (by simp) rfl ?_
                        refine WL_guard_skip rfl rfl (by simp) rfl ?_
                        refine WL_guard_skip rfl rfl (by simp) rfl ?_
                        refine WL_pick_t rfl rfl rfl ?_
                        refine WL_nil ?_
                        have hq14 := Option.some.inj hr17
                        subst hq14
                        have hC72 : Ctx [] w0 _ [Item.box b4 [v10, (.int .i64 x5.1.2.1), (.int .i64 x5.1.2.2)], Item.box b5 [v18, (.int .i64 x16.1.2.1), (.int .i64 x16.1.2.2)], Item.own v18 (x16.1.1 : (List Int)), Item.own v15 (x15.1 : (List Int)), Item.own v10 (x13.2.1 : (List Int)), Item.box b2 [v5, (.int .i64 x3.1.2.1), (.int .i64 x3.1.2.2)], Item.own v5 (x3.1.1 : (List Int)), Item.box b1 [u1, (.int .i64 a1.2.1), (.int .i64 a1.2.2)]] := hC71.front 4 rfl
                        have hC73 : Ctx [] w0 _ [Item.own v10 (x13.2.1 : (List Int)), Item.box b4 [v10, (.int .i64 x5.1.2.1), (.int .i64 x5.1.2.2)], Item.box b5 [v18, (.int .i64 x16.1.2.1), (.int .i64 x16.1.2.2)], Item.own v18 (x16.1.1 : (List Int)), Item.own v15 (x15.1 : (List Int)), Item.box b2 [v5, (.int .i64 x3.1.2.1), (.int .i64 x3.1.2.2)], Item.own v5 (x3.1.1 : (List Int)), Item.box b1 [u1, (.int .i64 a1.2.1), (.int .i64 a1.2.2)]] := hC72.front 4 rfl
                        have hC74 : Ctx [] w0 _ [Item.own v10 (x13.2.1 : (List Int)), Item.box b4 [v10, (.int .i64 x5.1.2.1), (.int .i64 x5.1.2.2)]] := hC73.headN 2
                        refine nrm_sub (l' := [(11, (ptr b4 0)), (14, (.int .i64 x13.1)), (97, (.bool true))]) ⟨rfl, rfl, rfl, trivial⟩ ?_
                        exact ⟨true, rfl, rfl, (Keep.of hB24).below, hC74⟩
                      · replace hr17 := ite_f hr17 hc10
                        refine WL_guard rfl rfl ?_
                        refine WL_move rfl rfl ?_
                        refine WL_guard rfl rfl ?_
                        refine WL_move rfl rfl ?_
                        refine WL_guard rfl rfl ?_
                        refine WL_bool_neq Try.underlying4 rfl rfl rfl ?_
                        refine WL_pick_f rfl rfl rfl ?_
                        refine WL_nil ?_
                        have hq15 := Option.some.inj hr17
                        subst hq15
                        have hC75 : Ctx [] w0 _ [Item.box b4 [v10, (.int .i64 x5.1.2.1), (.int .i64 x5.1.2.2)], Item.box b5 [v18, (.int .i64 x16.1.2.1), (.int .i64 x16.1.2.2)], Item.own v18 (x16.1.1 : (List Int)), Item.own v15 (x15.1 : (List Int)), Item.own v10 (x13.2.1 : (List Int)), Item.box b2 [v5, (.int .i64 x3.1.2.1), (.int .i64 x3.1.2.2)], Item.own v5 (x3.1.1 : (List Int)), Item.box b1 [u1, (.int .i64 a1.2.1), (.int .i64 a1.2.2)]] := hC71.front 4 rfl
                        have hC76 : Ctx [] w0 _ [Item.own v10 (x13.2.1 : (List Int)), Item.box b4 [v10, (.int .i64 x5.1.2.1), (.int .i64 x5.1.2.2)], Item.box b5 [v18, (.int .i64 x16.1.2.1), (.int .i64 x16.1.2.2)], Item.own v18 (x16.1.1 : (List Int)), Item.own v15 (x15.1 : (List Int)), Item.box b2 [v5, (.int .i64 x3.1.2.1), (.int .i64 x3.1.2.2)], Item.own v5 (x3.1.1 : (List Int)), Item.box b1 [u1, (.int .i64 a1.2.1), (.int .i64 a1.2.2)]] := hC75.front 4 rfl
                        have hC77 : Ctx [] w0 _ [Item.own v10 (x13.2.1 : (List Int)), Item.box b4 [v10, (.int .i64 x5.1.2.1), (.int .i64 x5.1.2.2)]] := hC76.headN 2
                        refine nrm_sub (l' := [(11, (ptr b4 0)), (14, (.int .i64 x13.1)), (97, (.bool (!decide (x16.2 = x3.2))))]) ⟨rfl, rfl, rfl, trivial⟩ ?_
                        exact ⟨(!decide (x16.2 = x3.2)), rfl, rfl, (Keep.of hB24).below, hC77⟩
                    · rintro _ w29 ⟨x17, rfl, rfl, hB23, hC70⟩
                      try dsimp only at hF
                      refine W_cond rfl (fun hc11 => ?_) (fun hc11 => ?_)
                      · replace hF := ite_t hF hc11
                        refine W_seq_reg ?_
                        refine WL_assign rfl rfl ?_
                        refine WL_nil ?_
                        refine W_ret ?_
                        refine nrm_ret ?_
                        have hq16 := Option.some.inj hF
                        subst hq16
                        refine fn_ret1 rfl rfl ?_
                        exact ⟨_, rfl, bool_res hC70 _⟩
                      · replace hF := ite_f hF hc11
                        refine W_skip ?_
                        refine nrm_normal ?_
                        refine W_seq_reg ?_
                        refine WL_assign rfl rfl ?_
                        refine WL_nil ?_
                        refine W_seq_reg ?_
                        refine WL_load_box_agg [v10, (.int .i64 x5.1.2.1), (.int .i64 x5.1.2.2)] hC70 1 rfl rfl rfl Try.isAgg26 Try.sizeOf26 rfl rfl ?_
                        refine WL_move rfl rfl ?_
                        obtain ⟨x19, hr19, hF⟩ := bind_some hF
                        refine WL_call Try.call21 rfl rfl (c_Q_heldLedger (x13.2.1, x5.1.2.1, x5.1.2.2) v10 ((hC70.ro 0 rfl).now (Keep.refl _ _)) 1 x19 hr19) ?_
                        intro _ w31 hv17
                        obtain ⟨rfl, hB25⟩ := res_int hv17
                        have hC78 := hC70.grow hB25
                        refine WL_assign rfl rfl ?_
                        refine WL_nil ?_
                        refine W_seq ?_
                        refine W_seq_reg ?_
                        refine WL_move rfl rfl ?_
                        refine WL_lss rfl rfl rfl ?_
                        refine WL_nil ?_
                        refine W_cond rfl (fun hc12 => ?_) (fun hc12 => ?_)
                        · replace hF := ite_t hF hc12
                          refine W_seq_reg ?_
                          refine WL_assign rfl rfl ?_
                          refine WL_nil ?_
                          refine W_ret ?_
                          refine nrm_ret ?_
                          have hq17 := Option.some.inj hF
                          subst hq17
                          refine fn_ret1 rfl rfl ?_
                          exact ⟨_, rfl, bool_res hC78 _⟩
                        · replace hF := ite_f hF hc12
                          refine W_skip ?_
                          refine nrm_normal ?_
                          refine W_seq ?_
                          refine W_seq_reg ?_
                          refine WL_move rfl rfl ?_
                          refine WL_move rfl rfl ?_
                          refine WL_neq rfl rfl rfl ?_
                          refine WL_nil ?_
                          refine W_cond rfl (fun hc13 => ?_) (fun hc13 => ?_)
                          · replace hF := ite_t hF hc13
                            refine W_seq_reg ?_
                            refine WL_assign rfl rfl ?_
                            refine WL_nil ?_
                            refine W_ret ?_
                            refine nrm_ret ?_
                            have hq18 := Option.some.inj hF
                            subst hq18
                            refine fn_ret1 rfl rfl ?_
                            exact ⟨_, rfl, bool_res hC78 _⟩
                          · replace hF := ite_f hF hc13
                            refine W_skip ?_
                            refine nrm_normal ?_
                            refine W_seq_reg ?_
                            refine WL_assign rfl rfl ?_
                            refine WL_nil ?_
                            refine W_ret ?_
                            have hq19 := Option.some.inj hF
                            subst hq19
                            refine fn_ret1 rfl rfl ?_
                            exact ⟨_, rfl, bool_res hC78 _⟩

end Go.Gx.Px
