/- The contracts of the Go functions against the pure functions, printed by program. Conditions: each says them. -/
import Derived.Test.YtnjjpmilcajmkaaC2
set_option linter.unusedVariables false
set_option linter.unusedSimpArgs false
set_option maxRecDepth 100000
set_option maxHeartbeats 4000000
namespace Go.Gx.Px
open Go.Proofs Go.RowKit

theorem c_Q_FnExactTryCall {w0 : World} (a1 : ((List Int) × Int × Int)) (u1 : Value) (g1 : RO [] w0 u1 a1.1) (a2 : (Int × Int × Int × Bool)) (a3 : Int) (rr : Bool) (hF : Q.FnExactTryCall a1 a2 a3 = some rr) :
    Calls Try.prog 4 [(.agg #[u1, (.int .i64 a1.2.1), (.int .i64 a1.2.2)]), (.agg #[(.int .i64 a2.1), (.int .i64 a2.2.1), (.int .i64 a2.2.2.1), (.bool a2.2.2.2)]), (.int .i64 a3)].toArray w0 fun e w' => ∃ v, e = .returned v ∧ Res w0 rr v w' := by
  refine calls_of_W Try.func4 rfl rfl ?_
  have hC0 := Ctx.start w0
  unfold Q.FnExactTryCall at hF
  refine W_seq_reg ?_
  refine WL_box (cs := [u1, (.int .i64 a1.2.1), (.int .i64 a1.2.2)]) hC0 rfl rfl rfl (fun b1 w1 hC1 hB1 => ?_)
  refine WL_box (cs := [(.int .i64 a2.1), (.int .i64 a2.2.1), (.int .i64 a2.2.2.1), (.bool a2.2.2.2)]) hC1 rfl rfl rfl (fun b2 w2 hC2 hB2 => ?_)
  refine WL_assign rfl rfl ?_
  refine WL_nil ?_
  refine W_seq_reg ?_
  refine WL_assign rfl rfl ?_
  refine WL_nil ?_
  refine W_seq_reg ?_
  refine WL_load_box_agg [u1, (.int .i64 a1.2.1), (.int .i64 a1.2.2)] hC2 1 rfl rfl rfl Try.isAgg24 Try.sizeOf24 rfl rfl ?_
  refine WL_move rfl rfl ?_
  obtain ⟨x1, hr1, hF⟩ := bind_some hF
  refine WL_call Try.call15 rfl rfl (c_Q_szLedger (a1.1, a1.2.1, a1.2.2) u1 (g1.now hC2.keep) 1048576 x1 hr1) ?_
  intro _ w3 hv1
  obtain ⟨rfl, hB3⟩ := res_int hv1
  have hC3 := hC2.grow hB3
  refine WL_assign rfl rfl ?_
  refine WL_nil ?_
  refine W_seq ?_
  refine W_seq_reg ?_
  refine WL_move rfl rfl ?_
  refine WL_lss rfl rfl rfl ?_
  refine WL_nil ?_
  refine W_cond rfl (fun hc1 => ?_) (fun hc1 => ?_)
  · replace hF := ite_t hF hc1
    refine W_seq_reg ?_
    refine WL_assign rfl rfl ?_
    refine WL_nil ?_
    refine W_ret ?_
    refine nrm_ret ?_
    have hq1 := Option.some.inj hF
    subst hq1
    refine fn_ret1 rfl rfl ?_
    exact ⟨_, rfl, bool_res hC3 _⟩
  · replace hF := ite_f hF hc1
    refine W_skip ?_
    refine nrm_normal ?_
    obtain ⟨r1, hr2, hF⟩ := bind_some hF
    refine W_cut (fun l w => ∃ x2 : Bool, ∃ b3 : Nat, ∃ v1 : Value, ∃ x3 : (List Int), ∃ x4 : Int, ∃ x5 : Int, ∃ b4 : Nat, ∃ x6 : Int, ∃ x7 : Int, ∃ x8 : Int, ∃ x9 : Bool, (x2, x3, x4, x5, x6, x7, x8, x9) = r1 ∧ l = [(2, (.int .i64 a3)), (3, (ptr b1 0)), (4, (ptr b2 0)), (8, (ptr b3 0)), (9, (ptr b4 0)), (10, (.bool x2))] ∧ Ctx [] w0 w [Item.box b4 [(.int .i64 x6), (.int .i64 x7), (.int .i64 x8), (.bool x9)], Item.box b3 [v1, (.int .i64 x4), (.int .i64 x5)], Item.own v1 (x3 : (List Int)), Item.box b2 [(.int .i64 a2.1), (.int .i64 a2.2.1), (.int .i64 a2.2.2.1), (.bool a2.2.2.2)], Item.box b1 [u1, (.int .i64 a1.2.1), (.int .i64 a1.2.2)]]) ?_ ?_
    · refine W_drawn 15 rfl hmix (fun w5 hB5 => ?_)
      have hC5 := hC3.grow hB5
      refine WA_take 4 rfl (by kernel_rfl) (by kernel_rfl) (by kernel_rfl) rfl (fl_move rfl) ?_
      refine WL_move rfl rfl ?_
      refine WL_nil ?_
      obtain ⟨x10, hr3, hr2⟩ := bind_some hr2
      obtain ⟨x11, hr4, hr2⟩ := bind_some hr2
      obtain ⟨x12, hr5, hr2⟩ := bind_some hr2
      refine WA.sub (l' := [(0, (.agg #[u1, (.int .i64 a1.2.1), (.int .i64 a1.2.2)])), (1, (.agg #[(.int .i64 a2.1), (.int .i64 a2.2.1), (.int .i64 a2.2.2.1), (.bool a2.2.2.2)])), (2, (.int .i64 a3)), (3, (ptr b1 0)), (4, (ptr b2 0)), (6, (.bool false)), (7, (.int .i64 x1)), (21, (.agg #[u1, (.int .i64 a1.2.1), (.int .i64 a1.2.2)])), (22, (.int .i64 1048576)), (23, (.int .i64 x1)), (24, (.int .i64 x1)), (25, (.bool (decide (x1 < 0)))), (31, (.int .i64 a3))]) ?_ ⟨rfl, rfl, rfl, rfl, rfl, rfl, rfl, rfl, rfl, rfl, rfl, rfl, rfl, trivial⟩
      refine WA_postsO [⟨0, [], fun vs => PW.val (.agg #[u1, (.int .i64 a1.2.1), (.int .i64 a1.2.2)]), []⟩, ⟨1, [], fun vs => PW.own x10, []⟩, ⟨2, [], fun vs => PW.val (.agg #[(.int .i64 a2.1), (.int .i64 a2.2.1), (.int .i64 a2.2.2.1), (.bool a2.2.2.2)]), []⟩, ⟨3, [], fun vs => PW.val (.agg #[(.int .i64 x11.1), (.int .i64 x11.2.1), (.int .i64 x11.2.2.1), (.bool x11.2.2.2)]), []⟩, ⟨5, [], fun vs => PW.own3 (x12.1 : ((List Int) × Int × Int)) (x12.2.1 : (Int × Int × Int × Bool)) (x12.2.2 : Bool), []⟩, ⟨6, [32], fun vs => PW.val (vs.getD 0 undef), []⟩, ⟨7, [26], fun vs => PW.comp (vs.getD 0 undef) 0, []⟩, ⟨8, [26], fun vs => PW.comp (vs.getD 0 undef) 1, []⟩, ⟨9, [26], fun vs => PW.comp (vs.getD 0 undef) 2, []⟩, ⟨10, [], fun vs => PW.box [(.slice none 0 0), (.int .i64 0), (.int .i64 0)], []⟩, ⟨11, [], fun vs => PW.box [(.int .i64 0), (.int .i64 0), (.int .i64 0), (.bool false)], []⟩] [[], [0], [], [2], [1, 3], [5], [5, 6], [5, 6], [5, 6], [], []] [8, 9] 3 rfl (by kernel_rfl) (by kernel_rfl) ?_ ⟨?_, ?_, ?_, ?_, trivial⟩
      · refine StepsE_cons rfl ?_ ?_
        · intro w11 hB11
          refine DepsE_nil ?_
          refine ⟨_, rfl, ?_⟩
          refine WL_load_box_agg [u1, (.int .i64 a1.2.1), (.int .i64 a1.2.2)] (hC5.grow hB11) 1 rfl rfl rfl Try.isAgg24 Try.sizeOf24 rfl rfl ?_
          refine WL_nil ?_
          exact FinE_val (Below.refl _ _) rfl rfl ⟨rfl, rfl⟩
        refine StepsE_cons rfl ?_ ?_
        · intro w11 hB11
          refine DepsE_cons rfl rfl rfl ?_
          rintro _ _ ⟨rfl, rfl⟩ _
          refine DepsE_nil ?_
          refine ⟨_, rfl, ?_⟩
          refine WL_call Try.call17 rfl rfl (c_Q_toLedger (a1.1, a1.2.1, a1.2.2) u1 (g1.now (hC5.keep.then hB11)) x10 hr3) ?_
          rintro v2 w6 ⟨hB6, F1, hv2, hn1, hb1⟩
          refine WL_nil ?_
          exact FinE_own hB6 rfl rfl hv2 hn1 hb1 (Val.inh hv2)
        refine StepsE_cons rfl ?_ ?_
        · intro w11 hB11
          refine DepsE_nil ?_
          refine ⟨_, rfl, ?_⟩
          refine WL_load_box_agg [(.int .i64 a2.1), (.int .i64 a2.2.1), (.int .i64 a2.2.2.1), (.bool a2.2.2.2)] (hC5.grow hB11) 0 rfl rfl rfl Try.isAgg34 Try.sizeOf34 rfl rfl ?_
          refine WL_nil ?_
          exact FinE_val (Below.refl _ _) rfl rfl ⟨rfl, rfl⟩
        refine StepsE_cons rfl ?_ ?_
        · intro w11 hB11
          refine DepsE_cons rfl rfl rfl ?_
          rintro _ _ ⟨rfl, rfl⟩ _
          refine DepsE_nil ?_
          refine ⟨_, rfl, ?_⟩
          refine WL_call Try.call23 rfl rfl (c_Q_toCall (a2.1, a2.2.1, a2.2.2.1, a2.2.2.2) x11 hr4) ?_
          rintro v4 w7 ⟨hB7, F2, hv3, hn2, hb2⟩
          obtain rfl := ro_st35 (D := []) ⟨F2, Val.weak hv3, by simp⟩
          refine WL_nil ?_
          exact FinE_val hB7 rfl rfl ⟨rfl, rfl⟩
        refine StepsE_cons rfl ?_ ?_
        · intro w11 hB11
          refine DepsE_cons rfl rfl rfl ?_
          intro v2 F1 hv2 _
          obtain ⟨v3, rfl, h1⟩ := ro_st26 (ro_of_own hv2)
          refine DepsE_cons rfl rfl rfl ?_
          rintro _ _ ⟨rfl, rfl⟩ _
          refine DepsE_nil ?_
          refine ⟨_, rfl, ?_⟩
          refine WL_call Try.call22 rfl rfl (c_S_TryCall x10 v3 (h1.now (Keep.refl _ _)) x11 a3 x12 hr5) ?_
          rintro _ w8 ⟨hB8, v5, v6, v7, F3, F4, F5, rfl, hv4, hv5, hv6, hn3, hb3⟩
          refine WL_nil ?_
          exact FinE_own (F := F3 ++ (F4 ++ F5)) hB8 rfl rfl ⟨_, _, _, _, _, _, rfl, rfl, hv4, hv5, hv6⟩ (by simpa using hn3) (fun b h => hb3 b (by simpa using h)) (fun b h => by simp only [List.mem_append] at h; rcases h with h | h | h; exact Val.inh hv4 b h; exact Val.inh hv5 b h; exact Val.inh hv6 b h)
        refine StepsE_cons rfl ?_ ?_
        · intro w11 hB11
          refine DepsE_cons rfl rfl rfl ?_
          rintro _ _ ⟨v5, v6, v7, F3, F4, F5, rfl, rfl, hv4, hv5, hv6⟩ _
          obtain ⟨rfl, rfl⟩ := val_bool hv6
          obtain ⟨v8, rfl, h2⟩ := ro_st26 (ro_of_own hv4)
          obtain rfl := ro_st35 (ro_of_own hv5)
          refine DepsE_nil ?_
          refine ⟨_, rfl, ?_⟩
          refine WL_move rfl rfl ?_
          refine WL_nil ?_
          exact FinE_val (Below.refl _ _) rfl rfl ⟨rfl, rfl⟩
        refine StepsE_cons rfl ?_ ?_
        · intro w11 hB11
          refine DepsE_cons rfl rfl rfl ?_
          rintro _ _ ⟨v5, v6, v7, F3, F4, F5, rfl, rfl, hv4, hv5, hv6⟩ _
          obtain ⟨rfl, rfl⟩ := val_bool hv6
          obtain ⟨v8, rfl, h2⟩ := ro_st26 (ro_of_own hv4)
          obtain rfl := ro_st35 (ro_of_own hv5)
          refine DepsE_cons rfl rfl rfl ?_
          rintro _ _ ⟨rfl, rfl⟩ _
          refine DepsE_nil ?_
          refine ⟨_, rfl, ?_⟩
          refine WL_extract rfl rfl rfl ?_
          refine WL_nil ?_
          exact FinE_val (Below.refl _ _) rfl rfl ⟨⟨_, rfl, rfl⟩, rfl⟩
        refine StepsE_cons rfl ?_ ?_
        · intro w11 hB11
          refine DepsE_cons rfl rfl rfl ?_
          rintro _ _ ⟨v5, v6, v7, F3, F4, F5, rfl, rfl, hv4, hv5, hv6⟩ _
          obtain ⟨rfl, rfl⟩ := val_bool hv6
          obtain ⟨v8, rfl, h2⟩ := ro_st26 (ro_of_own hv4)
          obtain rfl := ro_st35 (ro_of_own hv5)
          refine DepsE_cons rfl rfl rfl ?_
          rintro _ _ ⟨rfl, rfl⟩ _
          refine DepsE_nil ?_
          refine ⟨_, rfl, ?_⟩
          refine WL_extract rfl rfl rfl ?_
          refine WL_nil ?_
          exact FinE_val (Below.refl _ _) rfl rfl ⟨⟨_, rfl, rfl⟩, rfl⟩
        refine StepsE_cons rfl ?_ ?_
        · intro w11 hB11
          refine DepsE_cons rfl rfl rfl ?_
          rintro _ _ ⟨v5, v6, v7, F3, F4, F5, rfl, rfl, hv4, hv5, hv6⟩ _
          obtain ⟨rfl, rfl⟩ := val_bool hv6
          obtain ⟨v8, rfl, h2⟩ := ro_st26 (ro_of_own hv4)
          obtain rfl := ro_st35 (ro_of_own hv5)
          refine DepsE_cons rfl rfl rfl ?_
          rintro _ _ ⟨rfl, rfl⟩ _
          refine DepsE_nil ?_
          refine ⟨_, rfl, ?_⟩
          refine WL_extract rfl rfl rfl ?_
          refine WL_nil ?_
          exact FinE_val (Below.refl _ _) rfl rfl ⟨⟨_, rfl, rfl⟩, rfl⟩
        refine StepsE_cons rfl ?_ ?_
        · intro w11 hB11
          refine DepsE_nil ?_
          refine ⟨_, rfl, ?_⟩
          refine WL_alloc (Ctx.start _) zero26 rfl rfl (fun b5 w9 hC6 hB9 => ?_)
          refine WL_nil ?_
          exact FinE_ctx hC6 rfl rfl (fun F h => ⟨b5, rfl, h⟩)
        refine StepsE_cons rfl ?_ ?_
        · intro w11 hB11
          refine DepsE_nil ?_
          refine ⟨_, rfl, ?_⟩
          refine WL_alloc (Ctx.start _) zero35 rfl rfl (fun b6 w10 hC7 hB10 => ?_)
          refine WL_nil ?_
          exact FinE_ctx hC7 rfl rfl (fun F h => ⟨b6, rfl, h⟩)
        exact StepsE_nil
      · intro g' hg'
        obtain rfl : g' = 3 := hg'
        intro w12 hB12
        refine AllE_cons rfl rfl rfl ?_
        rintro _ _ ⟨rfl, rfl⟩
        refine AllE_cons rfl rfl rfl ?_
        intro v2 F1 hv2
        refine AllE_cons rfl rfl rfl ?_
        rintro _ _ ⟨rfl, rfl⟩
        refine AllE_cons rfl rfl rfl ?_
        rintro _ _ ⟨rfl, rfl⟩
        refine AllE_cons rfl rfl rfl ?_
        rintro _ _ ⟨v5, v6, v7, F3, F4, F5, rfl, rfl, hv4, hv5, hv6⟩
        obtain ⟨rfl, rfl⟩ := val_bool hv6
        refine AllE_cons rfl rfl rfl ?_
        rintro _ _ ⟨rfl, rfl⟩
        refine AllE_cons rfl rfl rfl ?_
        rintro _ _ ⟨⟨_, hx1, hx2⟩, rfl⟩
        obtain rfl := Value.tuple.inj hx1
        obtain rfl := Option.some.inj (show (some v5 : Option Value) = some _ from hx2)
        refine AllE_cons rfl rfl rfl ?_
        rintro _ _ ⟨⟨_, hx3, hx4⟩, rfl⟩
        obtain rfl := Value.tuple.inj hx3
        obtain rfl := Option.some.inj (show (some v6 : Option Value) = some _ from hx4)
        refine AllE_cons rfl rfl rfl ?_
        rintro _ _ ⟨⟨_, hx5, hx6⟩, rfl⟩
        obtain rfl := Value.tuple.inj hx5
        obtain rfl := Option.some.inj (show (some (.bool x12.2.2) : Option Value) = some _ from hx6)
        refine AllE_cons rfl rfl rfl ?_
        rintro _ F6 ⟨b5, rfl, hv7⟩
        refine AllE_cons rfl rfl rfl ?_
        rintro _ F7 ⟨b6, rfl, hv8⟩
        refine AllE_nil ?_
        intro hn4 hb4
        have hC8 := hC5.pushL hB12 (Bs := [Item.box b6 [(.int .i64 0), (.int .i64 0), (.int .i64 0), (.bool false)], Item.box b5 [(.slice none 0 0), (.int .i64 0), (.int .i64 0)], Item.own v5 (x12.1 : ((List Int) × Int × Int)), Item.own v6 (x12.2.1 : (Int × Int × Int × Bool)), Item.own v2 (x10 : ((List Int) × Int × Int))]) (Fs := [F7, F6, F3, F4, F1]) ⟨F7, _, rfl, hv8, F6, _, rfl, hv7, F3, _, rfl, hv4, F4, _, rfl, hv5, F1, _, rfl, hv2, rfl⟩ (by simpa using hn4) (fun b h => (hb4 b (by simpa using h)).1)
        have hC9 : Ctx [] w0 _ [Item.own v2 (x10 : ((List Int) × Int × Int)), Item.box b6 [(.int .i64 0), (.int .i64 0), (.int .i64 0), (.bool false)], Item.box b5 [(.slice none 0 0), (.int .i64 0), (.int .i64 0)], Item.own v5 (x12.1 : ((List Int) × Int × Int)), Item.own v6 (x12.2.1 : (Int × Int × Int × Bool)), Item.box b2 [(.int .i64 a2.1), (.int .i64 a2.2.1), (.int .i64 a2.2.2.1), (.bool a2.2.2.2)], Item.box b1 [u1, (.int .i64 a1.2.1), (.int .i64 a1.2.2)]] := hC8.front 4 rfl
        obtain ⟨v9, rfl, hC10⟩ := st26_own hC9
        have hC11 : Ctx [] w0 _ [Item.own v5 (x12.1 : ((List Int) × Int × Int)), Item.own v9 (x10.1 : (List Int)), Item.box b6 [(.int .i64 0), (.int .i64 0), (.int .i64 0), (.bool false)], Item.box b5 [(.slice none 0 0), (.int .i64 0), (.int .i64 0)], Item.own v6 (x12.2.1 : (Int × Int × Int × Bool)), Item.box b2 [(.int .i64 a2.1), (.int .i64 a2.2.1), (.int .i64 a2.2.2.1), (.bool a2.2.2.2)], Item.box b1 [u1, (.int .i64 a1.2.1), (.int .i64 a1.2.2)]] := hC10.front 3 rfl
        obtain ⟨v10, rfl, hC12⟩ := st26_own hC11
        have hC13 : Ctx [] w0 _ [Item.own v6 (x12.2.1 : (Int × Int × Int × Bool)), Item.own v10 (x12.1.1 : (List Int)), Item.own v9 (x10.1 : (List Int)), Item.box b6 [(.int .i64 0), (.int .i64 0), (.int .i64 0), (.bool false)], Item.box b5 [(.slice none 0 0), (.int .i64 0), (.int .i64 0)], Item.box b2 [(.int .i64 a2.1), (.int .i64 a2.2.1), (.int .i64 a2.2.2.1), (.bool a2.2.2.2)], Item.box b1 [u1, (.int .i64 a1.2.1), (.int .i64 a1.2.2)]] := hC12.front 4 rfl
        obtain ⟨rfl, hC14⟩ := st35_own hC13
        refine WA_one 12 (by kernel_rfl) rfl ?_
        refine WL_store_box_agg (cs' := [v10, (.int .i64 x12.1.2.1), (.int .i64 x12.1.2.2)]) (new := [v10, (.int .i64 x12.1.2.1), (.int .i64 x12.1.2.2)]) hC14 3 rfl rfl (by intro v hv; simp only [List.mem_cons, List.not_mem_nil, or_false] at hv; rcases hv with rfl | rfl | rfl; exact (ro_one (hC14.ro 0 rfl)); exact rfl; exact rfl) rfl Try.sizeOf26 rfl rfl (fun w13 hC15 => ?_)
        try dsimp only [List.set] at hC15
        refine WL_nil ?_
        refine WA_one 13 (by kernel_rfl) rfl ?_
        refine WL_store_box_agg (cs' := [(.int .i64 x12.2.1.1), (.int .i64 x12.2.1.2.1), (.int .i64 x12.2.1.2.2.1), (.bool x12.2.1.2.2.2)]) (new := [(.int .i64 x12.2.1.1), (.int .i64 x12.2.1.2.1), (.int .i64 x12.2.1.2.2.1), (.bool x12.2.1.2.2.2)]) hC15 2 rfl rfl (by intro v hv; simp only [List.mem_cons, List.not_mem_nil, or_false] at hv; rcases hv with rfl | rfl | rfl | rfl; exact rfl; exact rfl; exact rfl; exact rfl) rfl Try.sizeOf35 rfl rfl (fun w14 hC16 => ?_)
        try dsimp only [List.set] at hC16
        refine WL_nil ?_
        refine WA_take 14 rfl (by kernel_rfl) (by kernel_rfl) (by kernel_rfl) rfl (fl_assign rfl) ?_
        refine WL_assign rfl rfl ?_
        refine WL_nil ?_
        refine WA_done (by kernel_rfl) ?_
        have hq2 := Option.some.inj hr2
        subst hq2
        have hC17 : Ctx [] w0 _ [Item.box b1 [u1, (.int .i64 a1.2.1), (.int .i64 a1.2.2)], Item.own v10 (x12.1.1 : (List Int)), Item.own v9 (x10.1 : (List Int)), Item.box b6 [(.int .i64 x12.2.1.1), (.int .i64 x12.2.1.2.1), (.int .i64 x12.2.1.2.2.1), (.bool x12.2.1.2.2.2)], Item.box b5 [v10, (.int .i64 x12.1.2.1), (.int .i64 x12.1.2.2)], Item.box b2 [(.int .i64 a2.1), (.int .i64 a2.2.1), (.int .i64 a2.2.2.1), (.bool a2.2.2.2)]] := hC16.front 5 rfl
        have hC18 : Ctx [] w0 _ [Item.box b2 [(.int .i64 a2.1), (.int .i64 a2.2.1), (.int .i64 a2.2.2.1), (.bool a2.2.2.2)], Item.box b1 [u1, (.int .i64 a1.2.1), (.int .i64 a1.2.2)], Item.own v10 (x12.1.1 : (List Int)), Item.own v9 (x10.1 : (List Int)), Item.box b6 [(.int .i64 x12.2.1.1), (.int .i64 x12.2.1.2.1), (.int .i64 x12.2.1.2.2.1), (.bool x12.2.1.2.2.2)], Item.box b5 [v10, (.int .i64 x12.1.2.1), (.int .i64 x12.1.2.2)]] := hC17.front 5 rfl
        have hC19 : Ctx [] w0 _ [Item.own v10 (x12.1.1 : (List Int)), Item.box b2 [(.int .i64 a2.1), (.int .i64 a2.2.1), (.int .i64 a2.2.2.1), (.bool a2.2.2.2)], Item.box b1 [u1, (.int .i64 a1.2.1), (.int .i64 a1.2.2)], Item.own v9 (x10.1 : (List Int)), Item.box b6 [(.int .i64 x12.2.1.1), (.int .i64 x12.2.1.2.1), (.int .i64 x12.2.1.2.2.1), (.bool x12.2.1.2.2.2)], Item.box b5 [v10, (.int .i64 x12.1.2.1), (.int .i64 x12.1.2.2)]] := hC18.front 2 rfl
        have hC20 : Ctx [] w0 _ [Item.box b5 [v10, (.int .i64 x12.1.2.1), (.int .i64 x12.1.2.2)], Item.own v10 (x12.1.1 : (List Int)), Item.box b2 [(.int .i64 a2.1), (.int .i64 a2.2.1), (.int .i64 a2.2.2.1), (.bool a2.2.2.2)], Item.box b1 [u1, (.int .i64 a1.2.1), (.int .i64 a1.2.2)], Item.own v9 (x10.1 : (List Int)), Item.box b6 [(.int .i64 x12.2.1.1), (.int .i64 x12.2.1.2.1), (.int .i64 x12.2.1.2.2.1), (.bool x12.2.1.2.2.2)]] := hC19.front 5 rfl
        have hC21 : Ctx [] w0 _ [Item.box b6 [(.int .i64 x12.2.1.1), (.int .i64 x12.2.1.2.1), (.int .i64 x12.2.1.2.2.1), (.bool x12.2.1.2.2.2)], Item.box b5 [v10, (.int .i64 x12.1.2.1), (.int .i64 x12.1.2.2)], Item.own v10 (x12.1.1 : (List Int)), Item.box b2 [(.int .i64 a2.1), (.int .i64 a2.2.1), (.int .i64 a2.2.2.1), (.bool a2.2.2.2)], Item.box b1 [u1, (.int .i64 a1.2.1), (.int .i64 a1.2.2)], Item.own v9 (x10.1 : (List Int))] := hC20.front 5 rfl
        have hC22 : Ctx [] w0 _ [Item.box b6 [(.int .i64 x12.2.1.1), (.int .i64 x12.2.1.2.1), (.int .i64 x12.2.1.2.2.1), (.bool x12.2.1.2.2.2)], Item.box b5 [v10, (.int .i64 x12.1.2.1), (.int .i64 x12.1.2.2)], Item.own v10 (x12.1.1 : (List Int)), Item.box b2 [(.int .i64 a2.1), (.int .i64 a2.2.1), (.int .i64 a2.2.2.1), (.bool a2.2.2.2)], Item.box b1 [u1, (.int .i64 a1.2.1), (.int .i64 a1.2.2)]] := hC21.headN 5
        refine nrm_sub (l' := [(2, (.int .i64 a3)), (3, (ptr b1 0)), (4, (ptr b2 0)), (8, (ptr b5 0)), (9, (ptr b6 0)), (10, (.bool x12.2.2))]) ⟨rfl, rfl, rfl, rfl, rfl, rfl, trivial⟩ ?_
        exact ⟨x12.2.2, b5, v10, x12.1.1, x12.1.2.1, x12.1.2.2, b6, x12.2.1.1, x12.2.1.2.1, x12.2.1.2.2.1, x12.2.1.2.2.2, rfl, rfl, hC22⟩
      · intro g' hg'
        obtain rfl : g' = 4 := hg'
        intro w12 hB12
        refine AllE_cons rfl rfl rfl ?_
        rintro _ _ ⟨rfl, rfl⟩
        refine AllE_cons rfl rfl rfl ?_
        intro v2 F1 hv2
        refine AllE_cons rfl rfl rfl ?_
        rintro _ _ ⟨rfl, rfl⟩
        refine AllE_cons rfl rfl rfl ?_
        rintro _ _ ⟨rfl, rfl⟩
        refine AllE_cons rfl rfl rfl ?_
        rintro _ _ ⟨v5, v6, v7, F3, F4, F5, rfl, rfl, hv4, hv5, hv6⟩
        obtain ⟨rfl, rfl⟩ := val_bool hv6
        refine AllE_cons rfl rfl rfl ?_
        rintro _ _ ⟨rfl, rfl⟩
        refine AllE_cons rfl rfl rfl ?_
        rintro _ _ ⟨⟨_, hx1, hx2⟩, rfl⟩
        obtain rfl := Value.tuple.inj hx1
        obtain rfl := Option.some.inj (show (some v5 : Option Value) = some _ from hx2)
        refine AllE_cons rfl rfl rfl ?_
        rintro _ _ ⟨⟨_, hx3, hx4⟩, rfl⟩
        obtain rfl := Value.tuple.inj hx3
        obtain rfl := Option.some.inj (show (some v6 : Option Value) = some _ from hx4)
        refine AllE_cons rfl rfl rfl ?_
        rintro _ F6 ⟨b5, rfl, hv7⟩
        refine AllE_cons rfl rfl rfl ?_
        rintro _ F7 ⟨b6, rfl, hv8⟩
        refine AllE_nil ?_
        intro hn4 hb4
        have hC8 := hC5.pushL hB12 (Bs := [Item.box b6 [(.int .i64 0), (.int .i64 0), (.int .i64 0), (.bool false)], Item.box b5 [(.slice none 0 0), (.int .i64 0), (.int .i64 0)], Item.own v5 (x12.1 : ((List Int) × Int × Int)), Item.own v6 (x12.2.1 : (Int × Int × Int × Bool)), Item.own v2 (x10 : ((List Int) × Int × Int))]) (Fs := [F7, F6, F3, F4, F1]) ⟨F7, _, rfl, hv8, F6, _, rfl, hv7, F3, _, rfl, hv4, F4, _, rfl, hv5, F1, _, rfl, hv2, rfl⟩ (by simpa using hn4) (fun b h => (hb4 b (by simpa using h)).1)
        have hC9 : Ctx [] w0 _ [Item.own v2 (x10 : ((List Int) × Int × Int)), Item.box b6 [(.int .i64 0), (.int .i64 0), (.int .i64 0), (.bool false)], Item.box b5 [(.slice none 0 0), (.int .i64 0), (.int .i64 0)], Item.own v5 (x12.1 : ((List Int) × Int × Int)), Item.own v6 (x12.2.1 : (Int × Int × Int × Bool)), Item.box b2 [(.int .i64 a2.1), (.int .i64 a2.2.1), (.int .i64 a2.2.2.1), (.bool a2.2.2.2)], Item.box b1 [u1, (.int .i64 a1.2.1), (.int .i64 a1.2.2)]] := hC8.front 4 rfl
        obtain ⟨v9, rfl, hC10⟩ := st26_own hC9
        have hC11 : Ctx [] w0 _ [Item.own v5 (x12.1 : ((List Int) × Int × Int)), Item.own v9 (x10.1 : (List Int)), Item.box b6 [(.int .i64 0), (.int .i64 0), (.int .i64 0), (.bool false)], Item.box b5 [(.slice none 0 0), (.int .i64 0), (.int .i64 0)], Item.own v6 (x12.2.1 : (Int × Int × Int × Bool)), Item.box b2 [(.int .i64 a2.1), (.int .i64 a2.2.1), (.int .i64 a2.2.2.1), (.bool a2.2.2.2)], Item.box b1 [u1, (.int .i64 a1.2.1), (.int .i64 a1.2.2)]] := hC10.front 3 rfl
        obtain ⟨v10, rfl, hC12⟩ := st26_own hC11
        have hC13 : Ctx [] w0 _ [Item.own v6 (x12.2.1 : (Int × Int × Int × Bool)), Item.own v10 (x12.1.1 : (List Int)), Item.own v9 (x10.1 : (List Int)), Item.box b6 [(.int .i64 0), (.int .i64 0), (.int .i64 0), (.bool false)], Item.box b5 [(.slice none 0 0), (.int .i64 0), (.int .i64 0)], Item.box b2 [(.int .i64 a2.1), (.int .i64 a2.2.1), (.int .i64 a2.2.2.1), (.bool a2.2.2.2)], Item.box b1 [u1, (.int .i64 a1.2.1), (.int .i64 a1.2.2)]] := hC12.front 4 rfl
        obtain ⟨rfl, hC14⟩ := st35_own hC13
        refine WA_take 9 rfl (by kernel_rfl) (by kernel_rfl) (by kernel_rfl) rfl (fl_extract rfl rfl) ?_
        refine WL_extract rfl rfl rfl ?_
        refine WL_nil ?_
        refine WA_one 12 (by kernel_rfl) rfl ?_
        refine WL_store_box_agg (cs' := [v10, (.int .i64 x12.1.2.1), (.int .i64 x12.1.2.2)]) (new := [v10, (.int .i64 x12.1.2.1), (.int .i64 x12.1.2.2)]) hC14 3 rfl rfl (by intro v hv; simp only [List.mem_cons, List.not_mem_nil, or_false] at hv; rcases hv with rfl | rfl | rfl; exact (ro_one (hC14.ro 0 rfl)); exact rfl; exact rfl) rfl Try.sizeOf26 rfl rfl (fun w13 hC15 => ?_)
        try dsimp only [List.set] at hC15
        refine WL_nil ?_
        refine WA_one 13 (by kernel_rfl) rfl ?_
        refine WL_store_box_agg (cs' := [(.int .i64 x12.2.1.1), (.int .i64 x12.2.1.2.1), (.int .i64 x12.2.1.2.2.1), (.bool x12.2.1.2.2.2)]) (new := [(.int .i64 x12.2.1.1), (.int .i64 x12.2.1.2.1), (.int .i64 x12.2.1.2.2.1), (.bool x12.2.1.2.2.2)]) hC15 2 rfl rfl (by intro v hv; simp only [List.mem_cons, List.not_mem_nil, or_false] at hv; rcases hv with rfl | rfl | rfl | rfl; exact rfl; exact rfl; exact rfl; exact rfl) rfl Try.sizeOf35 rfl rfl (fun w14 hC16 => ?_)
        try dsimp only [List.set] at hC16
        refine WL_nil ?_
        refine WA_take 14 rfl (by kernel_rfl) (by kernel_rfl) (by kernel_rfl) rfl (fl_assign rfl) ?_
        refine WL_assign rfl rfl ?_
        refine WL_nil ?_
        refine WA_done (by kernel_rfl) ?_
        have hq2 := Option.some.inj hr2
        subst hq2
        have hC17 : Ctx [] w0 _ [Item.box b1 [u1, (.int .i64 a1.2.1), (.int .i64 a1.2.2)], Item.own v10 (x12.1.1 : (List Int)), Item.own v9 (x10.1 : (List Int)), Item.box b6 [(.int .i64 x12.2.1.1), (.int .i64 x12.2.1.2.1), (.int .i64 x12.2.1.2.2.1), (.bool x12.2.1.2.2.2)], Item.box b5 [v10, (.int .i64 x12.1.2.1), (.int .i64 x12.1.2.2)], Item.box b2 [(.int .i64 a2.1), (.int .i64 a2.2.1), (.int .i64 a2.2.2.1), (.bool a2.2.2.2)]] := hC16.front 5 rfl
        have hC18 : Ctx [] w0 _ [Item.box b2 [(.int .i64 a2.1), (.int .i64 a2.2.1), (.int .i64 a2.2.2.1), (.bool a2.2.2.2)], Item.box b1 [u1, (.int .i64 a1.2.1), (.int .i64 a1.2.2)], Item.own v10 (x12.1.1 : (List Int)), Item.own v9 (x10.1 : (List Int)), Item.box b6 [(.int .i64 x12.2.1.1), (.int .i64 x12.2.1.2.1), (.int .i64 x12.2.1.2.2.1), (.bool x12.2.1.2.2.2)], Item.box b5 [v10, (.int .i64 x12.1.2.1), (.int .i64 x12.1.2.2)]] := hC17.front 5 rfl
        have hC19 : Ctx [] w0 _ [Item.own v10 (x12.1.1 : (List Int)), Item.box b2 [(.int .i64 a2.1), (.int .i64 a2.2.1), (.int .i64 a2.2.2.1), (.bool a2.2.2.2)], Item.box b1 [u1, (.int .i64 a1.2.1), (.int .i64 a1.2.2)], Item.own v9 (x10.1 : (List Int)), Item.box b6 [(.int .i64 x12.2.1.1), (.int .i64 x12.2.1.2.1), (.int .i64 x12.2.1.2.2.1), (.bool x12.2.1.2.2.2)], Item.box b5 [v10, (.int .i64 x12.1.2.1), (.int .i64 x12.1.2.2)]] := hC18.front 2 rfl
        have hC20 : Ctx [] w0 _ [Item.box b5 [v10, (.int .i64 x12.1.2.1), (.int .i64 x12.1.2.2)], Item.own v10 (x12.1.1 : (List Int)), Item.box b2 [(.int .i64 a2.1), (.int .i64 a2.2.1), (.int .i64 a2.2.2.1), (.bool a2.2.2.2)], Item.box b1 [u1, (.int .i64 a1.2.1), (.int .i64 a1.2.2)], Item.own v9 (x10.1 : (List Int)), Item.box b6 [(.int .i64 x12.2.1.1), (.int .i64 x12.2.1.2.1), (.int .i64 x12.2.1.2.2.1), (.bool x12.2.1.2.2.2)]] := hC19.front 5 rfl
        have hC21 : Ctx [] w0 _ [Item.box b6 [(.int .i64 x12.2.1.1), (.int .i64 x12.2.1.2.1), (.int .i64 x12.2.1.2.2.1), (.bool x12.2.1.2.2.2)], Item.box b5 [v10, (.int .i64 x12.1.2.1), (.int .i64 x12.1.2.2)], Item.own v10 (x12.1.1 : (List Int)), Item.box b2 [(.int .i64 a2.1), (.int .i64 a2.2.1), (.int .i64 a2.2.2.1), (.bool a2.2.2.2)], Item.box b1 [u1, (.int .i64 a1.2.1), (.int .i64 a1.2.2)], Item.own v9 (x10.1 : (List Int))] := hC20.front 5 rfl
        have hC22 : Ctx [] w0 _ [Item.box b6 [(.int .i64 x12.2.1.1), (.int .i64 x12.2.1.2.1), (.int .i64 x12.2.1.2.2.1), (.bool x12.2.1.2.2.2)], Item.box b5 [v10, (.int .i64 x12.1.2.1), (.int .i64 x12.1.2.2)], Item.own v10 (x12.1.1 : (List Int)), Item.box b2 [(.int .i64 a2.1), (.int .i64 a2.2.1), (.int .i64 a2.2.2.1), (.bool a2.2.2.2)], Item.box b1 [u1, (.int .i64 a1.2.1), (.int .i64 a1.2.2)]] := hC21.headN 5
        refine nrm_sub (l' := [(2, (.int .i64 a3)), (3, (ptr b1 0)), (4, (ptr b2 0)), (8, (ptr b5 0)), (9, (ptr b6 0)), (10, (.bool x12.2.2))]) ⟨rfl, rfl, rfl, rfl, rfl, rfl, trivial⟩ ?_
        exact ⟨x12.2.2, b5, v10, x12.1.1, x12.1.2.1, x12.1.2.2, b6, x12.2.1.1, x12.2.1.2.1, x12.2.1.2.2.1, x12.2.1.2.2.2, rfl, rfl, hC22⟩
      · intro g' hg'
        obtain rfl : g' = 4 := hg'
        intro w12 hB12
        refine AllE_cons rfl rfl rfl ?_
        rintro _ _ ⟨rfl, rfl⟩
        refine AllE_cons rfl rfl rfl ?_
        intro v2 F1 hv2
        refine AllE_cons rfl rfl rfl ?_
        rintro _ _ ⟨rfl, rfl⟩
        refine AllE_cons rfl rfl rfl ?_
        rintro _ _ ⟨rfl, rfl⟩
        refine AllE_cons rfl rfl rfl ?_
        rintro _ _ ⟨v5, v6, v7, F3, F4, F5, rfl, rfl, hv4, hv5, hv6⟩
        obtain ⟨rfl, rfl⟩ := val_bool hv6
        refine AllE_cons rfl rfl rfl ?_
        rintro _ _ ⟨rfl, rfl⟩
        refine AllE_cons rfl rfl rfl ?_
        rintro _ _ ⟨⟨_, hx1, hx2⟩, rfl⟩
        obtain rfl := Value.tuple.inj hx1
        obtain rfl := Option.some.inj (show (some v5 : Option Value) = some _ from hx2)
        refine AllE_cons rfl rfl rfl ?_
        rintro _ _ ⟨⟨_, hx3, hx4⟩, rfl⟩
        obtain rfl := Value.tuple.inj hx3
        obtain rfl := Option.some.inj (show (some (.bool x12.2.2) : Option Value) = some _ from hx4)
        refine AllE_cons rfl rfl rfl ?_
        rintro _ F6 ⟨b5, rfl, hv7⟩
        refine AllE_cons rfl rfl rfl ?_
        rintro _ F7 ⟨b6, rfl, hv8⟩
        refine AllE_nil ?_
        intro hn4 hb4
        have hC8 := hC5.pushL hB12 (Bs := [Item.box b6 [(.int .i64 0), (.int .i64 0), (.int .i64 0), (.bool false)], Item.box b5 [(.slice none 0 0), (.int .i64 0), (.int .i64 0)], Item.own v5 (x12.1 : ((List Int) × Int × Int)), Item.own v6 (x12.2.1 : (Int × Int × Int × Bool)), Item.own v2 (x10 : ((List Int) × Int × Int))]) (Fs := [F7, F6, F3, F4, F1]) ⟨F7, _, rfl, hv8, F6, _, rfl, hv7, F3, _, rfl, hv4, F4, _, rfl, hv5, F1, _, rfl, hv2, rfl⟩ (by simpa using hn4) (fun b h => (hb4 b (by simpa using h)).1)
        have hC9 : Ctx [] w0 _ [Item.own v2 (x10 : ((List Int) × Int × Int)), Item.box b6 [(.int .i64 0), (.int .i64 0), (.int .i64 0), (.bool false)], Item.box b5 [(.slice none 0 0), (.int .i64 0), (.int .i64 0)], Item.own v5 (x12.1 : ((List Int) × Int × Int)), Item.own v6 (x12.2.1 : (Int × Int × Int × Bool)), Item.box b2 [(.int .i64 a2.1), (.int .i64 a2.2.1), (.int .i64 a2.2.2.1), (.bool a2.2.2.2)], Item.box b1 [u1, (.int .i64 a1.2.1), (.int .i64 a1.2.2)]] := hC8.front 4 rfl
        obtain ⟨v9, rfl, hC10⟩ := st26_own hC9
        have hC11 : Ctx [] w0 _ [Item.own v5 (x12.1 : ((List Int) × Int × Int)), Item.own v9 (x10.1 : (List Int)), Item.box b6 [(.int .i64 0), (.int .i64 0), (.int .i64 0), (.bool false)], Item.box b5 [(.slice none 0 0), (.int .i64 0), (.int .i64 0)], Item.own v6 (x12.2.1 : (Int × Int × Int × Bool)), Item.box b2 [(.int .i64 a2.1), (.int .i64 a2.2.1), (.int .i64 a2.2.2.1), (.bool a2.2.2.2)], Item.box b1 [u1, (.int .i64 a1.2.1), (.int .i64 a1.2.2)]] := hC10.front 3 rfl
        obtain ⟨v10, rfl, hC12⟩ := st26_own hC11
        have hC13 : Ctx [] w0 _ [Item.own v6 (x12.2.1 : (Int × Int × Int × Bool)), Item.own v10 (x12.1.1 : (List Int)), Item.own v9 (x10.1 : (List Int)), Item.box b6 [(.int .i64 0), (.int .i64 0), (.int .i64 0), (.bool false)], Item.box b5 [(.slice none 0 0), (.int .i64 0), (.int .i64 0)], Item.box b2 [(.int .i64 a2.1), (.int .i64 a2.2.1), (.int .i64 a2.2.2.1), (.bool a2.2.2.2)], Item.box b1 [u1, (.int .i64 a1.2.1), (.int .i64 a1.2.2)]] := hC12.front 4 rfl
        obtain ⟨rfl, hC14⟩ := st35_own hC13
        refine WA_take 8 rfl (by kernel_rfl) (by kernel_rfl) (by kernel_rfl) rfl (fl_extract rfl rfl) ?_
        refine WL_extract rfl rfl rfl ?_
        refine WL_nil ?_
        refine WA_one 12 (by kernel_rfl) rfl ?_
        refine WL_store_box_agg (cs' := [v10, (.int .i64 x12.1.2.1), (.int .i64 x12.1.2.2)]) (new := [v10, (.int .i64 x12.1.2.1), (.int .i64 x12.1.2.2)]) hC14 3 rfl rfl (by intro v hv; simp only [List.mem_cons, List.not_mem_nil, or_false] at hv; rcases hv with rfl | rfl | rfl; exact (ro_one (hC14.ro 0 rfl)); exact rfl; exact rfl) rfl Try.sizeOf26 rfl rfl (fun w13 hC15 => ?_)
        try dsimp only [List.set] at hC15
        refine WL_nil ?_
        refine WA_one 13 (by kernel_rfl) rfl ?_
        refine WL_store_box_agg (cs' := [(.int .i64 x12.2.1.1), (.int .i64 x12.2.1.2.1), (.int .i64 x12.2.1.2.2.1), (.bool x12.2.1.2.2.2)]) (new := [(.int .i64 x12.2.1.1), (.int .i64 x12.2.1.2.1), (.int .i64 x12.2.1.2.2.1), (.bool x12.2.1.2.2.2)]) hC15 2 rfl rfl (by intro v hv; simp only [List.mem_cons, List.not_mem_nil, or_false] at hv; rcases hv with rfl | rfl | rfl | rfl; exact rfl; exact rfl; exact rfl; exact rfl) rfl Try.sizeOf35 rfl rfl (fun w14 hC16 => ?_)
        try dsimp only [List.set] at hC16
        refine WL_nil ?_
        refine WA_take 14 rfl (by kernel_rfl) (by kernel_rfl) (by kernel_rfl) rfl (fl_assign rfl) ?_
        refine WL_assign rfl rfl ?_
        refine WL_nil ?_
        refine WA_done (by kernel_rfl) ?_
        have hq2 := Option.some.inj hr2
        subst hq2
        have hC17 : Ctx [] w0 _ [Item.box b1 [u1, (.int .i64 a1.2.1), (.int .i64 a1.2.2)], Item.own v10 (x12.1.1 : (List Int)), Item.own v9 (x10.1 : (List Int)), Item.box b6 [(.int .i64 x12.2.1.1), (.int .i64 x12.2.1.2.1), (.int .i64 x12.2.1.2.2.1), (.bool x12.2.1.2.2.2)], Item.box b5 [v10, (.int .i64 x12.1.2.1), (.int .i64 x12.1.2.2)], Item.box b2 [(.int .i64 a2.1), (.int .i64 a2.2.1), (.int .i64 a2.2.2.1), (.bool a2.2.2.2)]] := hC16.front 5 rfl
        have hC18 : Ctx [] w0 _ [Item.box b2 [(.int .i64 a2.1), (.int .i64 a2.2.1), (.int .i64 a2.2.2.1), (.bool a2.2.2.2)], Item.box b1 [u1, (.int .i64 a1.2.1), (.int .i64 a1.2.2)], Item.own v10 (x12.1.1 : (List Int)), Item.own v9 (x10.1 : (List Int)), Item.box b6 [(.int .i64 x12.2.1.1), (.int .i64 x12.2.1.2.1), (.int .i64 x12.2.1.2.2.1), (.bool x12.2.1.2.2.2)], Item.box b5 [v10, (.int .i64 x12.1.2.1), (.int .i64 x12.1.2.2)]] := hC17.front 5 rfl
        have hC19 : Ctx [] w0 _ [Item.own v10 (x12.1.1 : (List Int)), Item.box b2 [(.int .i64 a2.1), (.int .i64 a2.2.1), (.int .i64 a2.2.2.1), (.bool a2.2.2.2)], Item.box b1 [u1, (.int .i64 a1.2.1), (.int .i64 a1.2.2)], Item.own v9 (x10.1 : (List Int)), Item.box b6 [(.int .i64 x12.2.1.1), (.int .i64 x12.2.1.2.1), (.int .i64 x12.2.1.2.2.1), (.bool x12.2.1.2.2.2)], Item.box b5 [v10, (.int .i64 x12.1.2.1), (.int .i64 x12.1.2.2)]] := hC18.front 2 rfl
        have hC20 : Ctx [] w0 _ [Item.box b5 [v10, (.int .i64 x12.1.2.1), (.int .i64 x12.1.2.2)], Item.own v10 (x12.1.1 : (List Int)), Item.box b2 [(.int .i64 a2.1), (.int .i64 a2.2.1), (.int .i64 a2.2.2.1), (.bool a2.2.2.2)], Item.box b1 [u1, (.int .i64 a1.2.1), (.int .i64 a1.2.2)], Item.own v9 (x10.1 : (List Int)), Item.box b6 [(.int .i64 x12.2.1.1), (.int .i64 x12.2.1.2.1), (.int .i64 x12.2.1.2.2.1), (.bool x12.2.1.2.2.2)]] := hC19.front 5 rfl
        have hC21 : Ctx [] w0 _ [Item.box b6 [(.int .i64 x12.2.1.1), (.int .i64 x12.2.1.2.1), (.int .i64 x12.2.1.2.2.1), (.bool x12.2.1.2.2.2)], Item.box b5 [v10, (.int .i64 x12.1.2.1), (.int .i64 x12.1.2.2)], Item.own v10 (x12.1.1 : (List Int)), Item.box b2 [(.int .i64 a2.1), (.int .i64 a2.2.1), (.int .i64 a2.2.2.1), (.bool a2.2.2.2)], Item.box b1 [u1, (.int .i64 a1.2.1), (.int .i64 a1.2.2)], Item.own v9 (x10.1 : (List Int))] := hC20.front 5 rfl
        have hC22 : Ctx [] w0 _ [Item.box b6 [(.int .i64 x12.2.1.1), (.int .i64 x12.2.1.2.1), (.int .i64 x12.2.1.2.2.1), (.bool x12.2.1.2.2.2)], Item.box b5 [v10, (.int .i64 x12.1.2.1), (.int .i64 x12.1.2.2)], Item.own v10 (x12.1.1 : (List Int)), Item.box b2 [(.int .i64 a2.1), (.int .i64 a2.2.1), (.int .i64 a2.2.2.1), (.bool a2.2.2.2)], Item.box b1 [u1, (.int .i64 a1.2.1), (.int .i64 a1.2.2)]] := hC21.headN 5
        refine nrm_sub (l' := [(2, (.int .i64 a3)), (3, (ptr b1 0)), (4, (ptr b2 0)), (8, (ptr b5 0)), (9, (ptr b6 0)), (10, (.bool x12.2.2))]) ⟨rfl, rfl, rfl, rfl, rfl, rfl, trivial⟩ ?_
        exact ⟨x12.2.2, b5, v10, x12.1.1, x12.1.2.1, x12.1.2.2, b6, x12.2.1.1, x12.2.1.2.1, x12.2.1.2.2.1, x12.2.1.2.2.2, rfl, rfl, hC22⟩
      · intro g' hg'
        obtain rfl : g' = 5 := hg'
        intro w12 hB12
        refine AllE_cons rfl rfl rfl ?_
        rintro _ _ ⟨rfl, rfl⟩
        refine AllE_cons rfl rfl rfl ?_
        intro v2 F1 hv2
        refine AllE_cons rfl rfl rfl ?_
        rintro _ _ ⟨rfl, rfl⟩
        refine AllE_cons rfl rfl rfl ?_
        rintro _ _ ⟨rfl, rfl⟩
        refine AllE_cons rfl rfl rfl ?_
        rintro _ _ ⟨v5, v6, v7, F3, F4, F5, rfl, rfl, hv4, hv5, hv6⟩
        obtain ⟨rfl, rfl⟩ := val_bool hv6
        refine AllE_cons rfl rfl rfl ?_
        rintro _ _ ⟨rfl, rfl⟩
        refine AllE_cons rfl rfl rfl ?_
        rintro _ _ ⟨⟨_, hx1, hx2⟩, rfl⟩
        obtain rfl := Value.tuple.inj hx1
        obtain rfl := Option.some.inj (show (some v5 : Option Value) = some _ from hx2)
        refine AllE_cons rfl rfl rfl ?_
        rintro _ F6 ⟨b5, rfl, hv7⟩
        refine AllE_cons rfl rfl rfl ?_
        rintro _ F7 ⟨b6, rfl, hv8⟩
        refine AllE_nil ?_
        intro hn4 hb4
        have hC8 := hC5.pushL hB12 (Bs := [Item.box b6 [(.int .i64 0), (.int .i64 0), (.int .i64 0), (.bool false)], Item.box b5 [(.slice none 0 0), (.int .i64 0), (.int .i64 0)], Item.own v5 (x12.1 : ((List Int) × Int × Int)), Item.own v6 (x12.2.1 : (Int × Int × Int × Bool)), Item.own v2 (x10 : ((List Int) × Int × Int))]) (Fs := [F7, F6, F3, F4, F1]) ⟨F7, _, rfl, hv8, F6, _, rfl, hv7, F3, _, rfl, hv4, F4, _, rfl, hv5, F1, _, rfl, hv2, rfl⟩ (by simpa using hn4) (fun b h => (hb4 b (by simpa using h)).1)
        have hC9 : Ctx [] w0 _ [Item.own v2 (x10 : ((List Int) × Int × Int)), Item.box b6 [(.int .i64 0), (.int .i64 0), (.int .i64 0), (.bool false)], Item.box b5 [(.slice none 0 0), (.int .i64 0), (.int .i64 0)], Item.own v5 (x12.1 : ((List Int) × Int × Int)), Item.own v6 (x12.2.1 : (Int × Int × Int × Bool)), Item.box b2 [(.int .i64 a2.1), (.int .i64 a2.2.1), (.int .i64 a2.2.2.1), (.bool a2.2.2.2)], Item.box b1 [u1, (.int .i64 a1.2.1), (.int .i64 a1.2.2)]] := hC8.front 4 rfl
        obtain ⟨v9, rfl, hC10⟩ := st26_own hC9
        have hC11 : Ctx [] w0 _ [Item.own v5 (x12.1 : ((List Int) × Int × Int)), Item.own v9 (x10.1 : (List Int)), Item.box b6 [(.int .i64 0), (.int .i64 0), (.int .i64 0), (.bool false)], Item.box b5 [(.slice none 0 0), (.int .i64 0), (.int .i64 0)], Item.own v6 (x12.2.1 : (Int × Int × Int × Bool)), Item.box b2 [(.int .i64 a2.1), (.int .i64 a2.2.1), (.int .i64 a2.2.2.1), (.bool a2.2.2.2)], Item.box b1 [u1, (.int .i64 a1.2.1), (.int .i64 a1.2.2)]] := hC10.front 3 rfl
        obtain ⟨v10, rfl, hC12⟩ := st26_own hC11
        have hC13 : Ctx [] w0 _ [Item.own v6 (x12.2.1 : (Int × Int × Int × Bool)), Item.own v10 (x12.1.1 : (List Int)), Item.own v9 (x10.1 : (List Int)), Item.box b6 [(.int .i64 0), (.int .i64 0), (.int .i64 0), (.bool false)], Item.box b5 [(.slice none 0 0), (.int .i64 0), (.int .i64 0)], Item.box b2 [(.int .i64 a2.1), (.int .i64 a2.2.1), (.int .i64 a2.2.2.1), (.bool a2.2.2.2)], Item.box b1 [u1, (.int .i64 a1.2.1), (.int .i64 a1.2.2)]] := hC12.front 4 rfl
        obtain ⟨rfl, hC14⟩ := st35_own hC13
        refine WA_take 8 rfl (by kernel_rfl) (by kernel_rfl) (by kernel_rfl) rfl (fl_extract rfl rfl) ?_
        refine WL_extract rfl rfl rfl ?_
        refine WL_nil ?_
        refine WA_take 9 rfl (by kernel_rfl) (by kernel_rfl) (by kernel_rfl) rfl (fl_extract rfl rfl) ?_
        refine WL_extract rfl rfl rfl ?_
        refine WL_nil ?_
        refine WA_one 12 (by kernel_rfl) rfl ?_
        refine WL_store_box_agg (cs' := [v10, (.int .i64 x12.1.2.1), (.int .i64 x12.1.2.2)]) (new := [v10, (.int .i64 x12.1.2.1), (.int .i64 x12.1.2.2)]) hC14 3 rfl rfl (by intro v hv; simp only [List.mem_cons, List.not_mem_nil, or_false] at hv; rcases hv with rfl | rfl | rfl; exact (ro_one (hC14.ro 0 rfl)); exact rfl; exact rfl) rfl Try.sizeOf26 rfl rfl (fun w13 hC15 => ?_)
        try dsimp only [List.set] at hC15
        refine WL_nil ?_
        refine WA_one 13 (by kernel_rfl) rfl ?_
        refine WL_store_box_agg (cs' := [(.int .i64 x12.2.1.1), (.int .i64 x12.2.1.2.1), (.int .i64 x12.2.1.2.2.1), (.bool x12.2.1.2.2.2)]) (new := [(.int .i64 x12.2.1.1), (.int .i64 x12.2.1.2.1), (.int .i64 x12.2.1.2.2.1), (.bool x12.2.1.2.2.2)]) hC15 2 rfl rfl (by intro v hv; simp only [List.mem_cons, List.not_mem_nil, or_false] at hv; rcases hv with rfl | rfl | rfl | rfl; exact rfl; exact rfl; exact rfl; exact rfl) rfl Try.sizeOf35 rfl rfl (fun w14 hC16 => ?_)
        try dsimp only [List.set] at hC16
        refine WL_nil ?_
        refine WA_take 14 rfl (by kernel_rfl) (by kernel_rfl) (by kernel_rfl) rfl (fl_assign rfl) ?_
        refine WL_assign rfl rfl ?_
        refine WL_nil ?_
        refine WA_done (by kernel_rfl) ?_
        have hq2 := Option.some.inj hr2
        subst hq2
        have hC17 : Ctx [] w0 _ [Item.box b1 [u1, (.int .i64 a1.2.1), (.int .i64 a1.2.2)], Item.own v10 (x12.1.1 : (List Int)), Item.own v9 (x10.1 : (List Int)), Item.box b6 [(.int .i64 x12.2.1.1), (.int .i64 x12.2.1.2.1), (.int .i64 x12.2.1.2.2.1), (.bool x12.2.1.2.2.2)], Item.box b5 [v10, (.int .i64 x12.1.2.1), (.int .i64 x12.1.2.2)], Item.box b2 [(.int .i64 a2.1), (.int .i64 a2.2.1), (.int .i64 a2.2.2.1), (.bool a2.2.2.2)]] := hC16.front 5 rfl
        have hC18 : Ctx [] w0 _ [Item.box b2 [(.int .i64 a2.1), (.int .i64 a2.2.1), (.int .i64 a2.2.2.1), (.bool a2.2.2.2)], Item.box b1 [u1, (.int .i64 a1.2.1), (.int .i64 a1.2.2)], Item.own v10 (x12.1.1 : (List Int)), Item.own v9 (x10.1 : (List Int)), Item.box b6 [(.int .i64 x12.2.1.1), (.int .i64 x12.2.1.2.1), (.int .i64 x12.2.1.2.2.1), (.bool x12.2.1.2.2.2)], Item.box b5 [v10, (.int .i64 x12.1.2.1), (.int .i64 x12.1.2.2)]] := hC17.front 5 rfl
        have hC19 : Ctx [] w0 _ [Item.own v10 (x12.1.1 : (List Int)), Item.box b2 [(.int .i64 a2.1), (.int .i64 a2.2.1), (.int .i64 a2.2.2.1), (.bool a2.2.2.2)], Item.box b1 [u1, (.int .i64 a1.2.1), (.int .i64 a1.2.2)], Item.own v9 (x10.1 : (List Int)), Item.box b6 [(.int .i64 x12.2.1.1), (.int .i64 x12.2.1.2.1), (.int .i64 x12.2.1.2.2.1), (.bool x12.2.1.2.2.2)], Item.box b5 [v10, (.int .i64 x12.1.2.1), (.int .i64 x12.1.2.2)]] := hC18.front 2 rfl
        have hC20 : Ctx [] w0 _ [Item.box b5 [v10, (.int .i64 x12.1.2.1), (.int .i64 x12.1.2.2)], Item.own v10 (x12.1.1 : (List Int)), Item.box b2 [(.int .i64 a2.1), (.int .i64 a2.2.1), (.int .i64 a2.2.2.1), (.bool a2.2.2.2)], Item.box b1 [u1, (.int .i64 a1.2.1), (.int .i64 a1.2.2)], Item.own v9 (x10.1 : (List Int)), Item.box b6 [(.int .i64 x12.2.1.1), (.int .i64 x12.2.1.2.1), (.int .i64 x12.2.1.2.2.1), (.bool x12.2.1.2.2.2)]] := hC19.front 5 rfl
        have hC21 : Ctx [] w0 _ [Item.box b6 [(.int .i64 x12.2.1.1), (.int .i64 x12.2.1.2.1), (.int .i64 x12.2.1.2.2.1), (.bool x12.2.1.2.2.2)], Item.box b5 [v10, (.int .i64 x12.1.2.1), (.int .i64 x12.1.2.2)], Item.own v10 (x12.1.1 : (List Int)), Item.box b2 [(.int .i64 a2.1), (.int .i64 a2.2.1), (.int .i64 a2.2.2.1), (.bool a2.2.2.2)], Item.box b1 [u1, (.int .i64 a1.2.1), (.int .i64 a1.2.2)], Item.own v9 (x10.1 : (List Int))] := hC20.front 5 rfl
        have hC22 : Ctx [] w0 _ [Item.box b6 [(.int .i64 x12.2.1.1), (.int .i64 x12.2.1.2.1), (.int .i64 x12.2.1.2.2.1), (.bool x12.2.1.2.2.2)], Item.box b5 [v10, (.int .i64 x12.1.2.1), (.int .i64 x12.1.2.2)], Item.own v10 (x12.1.1 : (List Int)), Item.box b2 [(.int .i64 a2.1), (.int .i64 a2.2.1), (.int .i64 a2.2.2.1), (.bool a2.2.2.2)], Item.box b1 [u1, (.int .i64 a1.2.1), (.int .i64 a1.2.2)]] := hC21.headN 5
        refine nrm_sub (l' := [(2, (.int .i64 a3)), (3, (ptr b1 0)), (4, (ptr b2 0)), (8, (ptr b5 0)), (9, (ptr b6 0)), (10, (.bool x12.2.2))]) ⟨rfl, rfl, rfl, rfl, rfl, rfl, trivial⟩ ?_
        exact ⟨x12.2.2, b5, v10, x12.1.1, x12.1.2.1, x12.1.2.2, b6, x12.2.1.1, x12.2.1.2.1, x12.2.1.2.2.1, x12.2.1.2.2.2, rfl, rfl, hC22⟩
    · rintro _ w4 ⟨x2, b3, v1, x3, x4, x5, b4, x6, x7, x8, x9, rfl, rfl, hC4⟩
      try dsimp only at hF
      refine W_seq_reg ?_
      refine WL_load_box_agg [u1, (.int .i64 a1.2.1), (.int .i64 a1.2.2)] hC4 4 rfl rfl rfl Try.isAgg24 Try.sizeOf24 rfl rfl ?_
      obtain ⟨x13, hr6, hF⟩ := bind_some hF
      refine WL_call Try.call17 rfl rfl (c_Q_toLedger (a1.1, a1.2.1, a1.2.2) u1 (g1.now hC4.keep) x13 hr6) ?_
      rintro v11 w15 ⟨hB13, F8, hv9, hn5, hb5⟩
      have hC23 := hC4.push hB13 (A := Item.own v11 x13) hv9 hn5 hb5
      obtain ⟨v12, rfl, hC24⟩ := st26_own hC23
      refine WL_alloc hC24 zero26 rfl rfl (fun b7 w16 hC25 hB14 => ?_)
      refine WL_store_box_agg (cs' := [v12, (.int .i64 x13.2.1), (.int .i64 x13.2.2)]) (new := [v12, (.int .i64 x13.2.1), (.int .i64 x13.2.2)]) hC25 0 rfl rfl (by intro v hv; simp only [List.mem_cons, List.not_mem_nil, or_false] at hv; rcases hv with rfl | rfl | rfl; exact (ro_one (hC25.ro 1 rfl)); exact rfl; exact rfl) rfl Try.sizeOf26 rfl rfl (fun w17 hC26 => ?_)
      try dsimp only [List.set] at hC26
      refine WL_nil ?_
      obtain ⟨r2, hr7, hF⟩ := bind_some hF
      refine W_cut (fun l w => ∃ x14 : Bool, ∃ b8 : Nat, ∃ v13 : Value, ∃ x15 : (List Int), ∃ x16 : Int, ∃ x17 : Int, ∃ b9 : Nat, ∃ x18 : Int, ∃ x19 : Int, ∃ x20 : Int, ∃ x21 : Bool, (x14, x15, x16, x17, x18, x19, x20, x21) = r2 ∧ l = [(2, (.int .i64 a3)), (3, (ptr b1 0)), (4, (ptr b2 0)), (8, (ptr b3 0)), (9, (ptr b4 0)), (10, (.bool x2)), (11, (ptr b7 0)), (12, (ptr b8 0)), (13, (ptr b9 0)), (14, (.bool x14))] ∧ Ctx [] w0 w [Item.box b9 [(.int .i64 x18), (.int .i64 x19), (.int .i64 x20), (.bool x21)], Item.box b8 [v13, (.int .i64 x16), (.int .i64 x17)], Item.own v13 (x15 : (List Int)), Item.box b7 [v12, (.int .i64 x13.2.1), (.int .i64 x13.2.2)], Item.own v12 (x13.1 : (List Int)), Item.box b4 [(.int .i64 x6), (.int .i64 x7), (.int .i64 x8), (.bool x9)], Item.box b3 [v1, (.int .i64 x4), (.int .i64 x5)], Item.own v1 (x3 : (List Int)), Item.box b2 [(.int .i64 a2.1), (.int .i64 a2.2.1), (.int .i64 a2.2.2.1), (.bool a2.2.2.2)], Item.box b1 [u1, (.int .i64 a1.2.1), (.int .i64 a1.2.2)]]) ?_ ?_
      · refine W_drawn 14 rfl hmix (fun w19 hB16 => ?_)
        have hC28 := hC26.grow hB16
        refine WA_take 3 rfl (by kernel_rfl) (by kernel_rfl) (by kernel_rfl) rfl (fl_move rfl) ?_
        refine WL_move rfl rfl ?_
        refine WL_nil ?_
        obtain ⟨x22, hr8, hr7⟩ := bind_some hr7
        obtain ⟨x23, hr9, hr7⟩ := bind_some hr7
        refine WA.sub (l' := [(2, (.int .i64 a3)), (3, (ptr b1 0)), (4, (ptr b2 0)), (8, (ptr b3 0)), (9, (ptr b4 0)), (10, (.bool x2)), (11, (ptr b7 0)), (36, (.agg #[u1, (.int .i64 a1.2.1), (.int .i64 a1.2.2)])), (37, (.agg #[v12, (.int .i64 x13.2.1), (.int .i64 x13.2.2)])), (42, (.int .i64 a3))]) ?_ ⟨rfl, rfl, rfl, rfl, rfl, rfl, rfl, rfl, rfl, rfl, trivial⟩
        refine WA_postsO [⟨0, [], fun vs => PW.val (.agg #[v12, (.int .i64 x13.2.1), (.int .i64 x13.2.2)]), []⟩, ⟨1, [], fun vs => PW.val (.agg #[(.int .i64 a2.1), (.int .i64 a2.2.1), (.int .i64 a2.2.2.1), (.bool a2.2.2.2)]), []⟩, ⟨2, [], fun vs => PW.val (.agg #[(.int .i64 x22.1), (.int .i64 x22.2.1), (.int .i64 x22.2.2.1), (.bool x22.2.2.2)]), []⟩, ⟨4, [], fun vs => PW.own3 (x23.1 : ((List Int) × Int × Int)) (x23.2.1 : (Int × Int × Int × Bool)) (x23.2.2 : Bool), []⟩, ⟨5, [43], fun vs => PW.val (vs.getD 0 undef), []⟩, ⟨6, [38], fun vs => PW.comp (vs.getD 0 undef) 0, []⟩, ⟨7, [38], fun vs => PW.comp (vs.getD 0 undef) 1, []⟩, ⟨8, [38], fun vs => PW.comp (vs.getD 0 undef) 2, []⟩, ⟨9, [], fun vs => PW.box [(.slice none 0 0), (.int .i64 0), (.int .i64 0)], []⟩, ⟨10, [], fun vs => PW.box [(.int .i64 0), (.int .i64 0), (.int .i64 0), (.bool false)], []⟩] [[], [], [1], [0, 2], [4], [4, 5], [4, 5], [4, 5], [], []] [7, 8] 3 rfl (by kernel_rfl) (by kernel_rfl) ?_ ⟨?_, ?_, ?_, ?_, trivial⟩
        · refine StepsE_cons rfl ?_ ?_
          · intro w24 hB21
            refine DepsE_nil ?_
            refine ⟨_, rfl, ?_⟩
            refine WL_load_box_agg [v12, (.int .i64 x13.2.1), (.int .i64 x13.2.2)] (hC28.grow hB21) 0 rfl rfl rfl Try.isAgg26 Try.sizeOf26 rfl rfl ?_
            refine WL_nil ?_
            exact FinE_val (Below.refl _ _) rfl rfl ⟨rfl, rfl⟩
          refine StepsE_cons rfl ?_ ?_
          · intro w24 hB21
            refine DepsE_nil ?_
            refine ⟨_, rfl, ?_⟩
            refine WL_load_box_agg [(.int .i64 a2.1), (.int .i64 a2.2.1), (.int .i64 a2.2.2.1), (.bool a2.2.2.2)] (hC28.grow hB21) 5 rfl rfl rfl Try.isAgg34 Try.sizeOf34 rfl rfl ?_
            refine WL_nil ?_
            exact FinE_val (Below.refl _ _) rfl rfl ⟨rfl, rfl⟩
          refine StepsE_cons rfl ?_ ?_
          · intro w24 hB21
            refine DepsE_cons rfl rfl rfl ?_
            rintro _ _ ⟨rfl, rfl⟩ _
            refine DepsE_nil ?_
            refine ⟨_, rfl, ?_⟩
            refine WL_call Try.call23 rfl rfl (c_Q_toCall (a2.1, a2.2.1, a2.2.2.1, a2.2.2.2) x22 hr8) ?_
            rintro v14 w20 ⟨hB17, F9, hv10, hn6, hb6⟩
            obtain rfl := ro_st35 (D := []) ⟨F9, Val.weak hv10, by simp⟩
            refine WL_nil ?_
            exact FinE_val hB17 rfl rfl ⟨rfl, rfl⟩
          refine StepsE_cons rfl ?_ ?_
          · intro w24 hB21
            refine DepsE_cons rfl rfl rfl ?_
            rintro _ _ ⟨rfl, rfl⟩ _
            refine DepsE_cons rfl rfl rfl ?_
            rintro _ _ ⟨rfl, rfl⟩ _
            refine DepsE_nil ?_
            refine ⟨_, rfl, ?_⟩
            refine WL_call Try.call24 rfl rfl (c_M_TryCall (x13.1, x13.2.1, x13.2.2) v12 ((hC28.grow hB21).ro 1 rfl) x22 a3 x23 hr9) ?_
            rintro _ w21 ⟨hB18, v15, v16, v17, F10, F11, F12, rfl, hv11, hv12, hv13, hn7, hb7⟩
            refine WL_nil ?_
            exact FinE_own (F := F10 ++ (F11 ++ F12)) hB18 rfl rfl ⟨_, _, _, _, _, _, rfl, rfl, hv11, hv12, hv13⟩ (by simpa using hn7) (fun b h => hb7 b (by simpa using h)) (fun b h => by simp only [List.mem_append] at h; rcases h with h | h | h; exact Val.inh hv11 b h; exact Val.inh hv12 b h; exact Val.inh hv13 b h)
          refine StepsE_cons rfl ?_ ?_
          · intro w24 hB21
            refine DepsE_cons rfl rfl rfl ?_
            rintro _ _ ⟨v15, v16, v17, F10, F11, F12, rfl, rfl, hv11, hv12, hv13⟩ _
            obtain ⟨rfl, rfl⟩ := val_bool hv13
            obtain ⟨v18, rfl, h3⟩ := ro_st26 (ro_of_own hv11)
            obtain rfl := ro_st35 (ro_of_own hv12)
            refine DepsE_nil ?_
            refine ⟨_, rfl, ?_⟩
            refine WL_move rfl rfl ?_
            refine WL_nil ?_
            exact FinE_val (Below.refl _ _) rfl rfl ⟨rfl, rfl⟩
          refine StepsE_cons rfl ?_ ?_
          · intro w24 hB21
            refine DepsE_cons rfl rfl rfl ?_
            rintro _ _ ⟨v15, v16, v17, F10, F11, F12, rfl, rfl, hv11, hv12, hv13⟩ _
            obtain ⟨rfl, rfl⟩ := val_bool hv13
            obtain ⟨v18, rfl, h3⟩ := ro_st26 (ro_of_own hv11)
            obtain rfl := ro_st35 (ro_of_own hv12)
            refine DepsE_cons rfl rfl rfl ?_
            rintro _ _ ⟨rfl, rfl⟩ _
            refine DepsE_nil ?_
            refine ⟨_, rfl, ?_⟩
            refine WL_extract rfl rfl rfl ?_
            refine WL_nil ?_
            exact FinE_val (Below.refl _ _) rfl rfl ⟨⟨_, rfl, rfl⟩, rfl⟩
          refine StepsE_cons rfl ?_ ?_
          · intro w24 hB21
            refine DepsE_cons rfl rfl rfl ?_
            rintro _ _ ⟨v15, v16, v17, F10, F11, F12, rfl, rfl, hv11, hv12, hv13⟩ _
            obtain ⟨rfl, rfl⟩ := val_bool hv13
            obtain ⟨v18, rfl, h3⟩ := ro_st26 (ro_of_own hv11)
            obtain rfl := ro_st35 (ro_of_own hv12)
            refine DepsE_cons rfl rfl rfl ?_
            rintro _ _ ⟨rfl, rfl⟩ _
            refine DepsE_nil ?_
            refine ⟨_, rfl, ?_⟩
            refine WL_extract rfl rfl rfl ?_
            refine WL_nil ?_
            exact FinE_val (Below.refl _ _) rfl rfl ⟨⟨_, rfl, rfl⟩, rfl⟩
          refine StepsE_cons rfl ?_ ?_
          · intro w24 hB21
            refine DepsE_cons rfl rfl rfl ?_
            rintro _ _ ⟨v15, v16, v17, F10, F11, F12, rfl, rfl, hv11, hv12, hv13⟩ _
            obtain ⟨rfl, rfl⟩ := val_bool hv13
            obtain ⟨v18, rfl, h3⟩ := ro_st26 (ro_of_own hv11)
            obtain rfl := ro_st35 (ro_of_own hv12)
            refine DepsE_cons rfl rfl rfl ?_
            rintro _ _ ⟨rfl, rfl⟩ _
            refine DepsE_nil ?_
            refine ⟨_, rfl, ?_⟩
            refine WL_extract rfl rfl rfl ?_
            refine WL_nil ?_
            exact FinE_val (Below.refl _ _) rfl rfl ⟨⟨_, rfl, rfl⟩, rfl⟩
          refine StepsE_cons rfl ?_ ?_
          · intro w24 hB21
            refine DepsE_nil ?_
            refine ⟨_, rfl, ?_⟩
            refine WL_alloc (Ctx.start _) zero26 rfl rfl (fun b10 w22 hC29 hB19 => ?_)
            refine WL_nil ?_
            exact FinE_ctx hC29 rfl rfl (fun F h => ⟨b10, rfl, h⟩)
          refine StepsE_cons rfl ?_ ?_
          · intro w24 hB21
            refine DepsE_nil ?_
            refine ⟨_, rfl, ?_⟩
            refine WL_alloc (Ctx.start _) zero35 rfl rfl (fun b11 w23 hC30 hB20 => ?_)
            refine WL_nil ?_
            exact FinE_ctx hC30 rfl rfl (fun F h => ⟨b11, rfl, h⟩)
          exact StepsE_nil
        · intro g' hg'
          obtain rfl : g' = 3 := hg'
          intro w25 hB22
          refine AllE_cons rfl rfl rfl ?_
          rintro _ _ ⟨rfl, rfl⟩
          refine AllE_cons rfl rfl rfl ?_
          rintro _ _ ⟨rfl, rfl⟩
          refine AllE_cons rfl rfl rfl ?_
          rintro _ _ ⟨rfl, rfl⟩
          refine AllE_cons rfl rfl rfl ?_
          rintro _ _ ⟨v15, v16, v17, F10, F11, F12, rfl, rfl, hv11, hv12, hv13⟩
          obtain ⟨rfl, rfl⟩ := val_bool hv13
          refine AllE_cons rfl rfl rfl ?_
          rintro _ _ ⟨rfl, rfl⟩
          refine AllE_cons rfl rfl rfl ?_
          rintro _ _ ⟨⟨_, hx7, hx8⟩, rfl⟩
          obtain rfl := Value.tuple.inj hx7
          obtain rfl := Option.some.inj (show (some v15 : Option Value) = some _ from hx8)
          refine AllE_cons rfl rfl rfl ?_
          rintro _ _ ⟨⟨_, hx9, hx10⟩, rfl⟩
          obtain rfl := Value.tuple.inj hx9
          obtain rfl := Option.some.inj (show (some v16 : Option Value) = some _ from hx10)
          refine AllE_cons rfl rfl rfl ?_
          rintro _ _ ⟨⟨_, hx11, hx12⟩, rfl⟩
          obtain rfl := Value.tuple.inj hx11
          obtain rfl := Option.some.inj (show (some (.bool x23.2.2) : Option Value) = some _ from hx12)
          refine AllE_cons rfl rfl rfl ?_
          rintro _ F13 ⟨b10, rfl, hv14⟩
          refine AllE_cons rfl rfl rfl ?_
          rintro _ F14 ⟨b11, rfl, hv15⟩
          refine AllE_nil ?_
          intro hn8 hb8
          have hC31 := hC28.pushL hB22 (Bs := [Item.box b11 [(.int .i64 0), (.int .i64 0), (.int .i64 0), (.bool false)], Item.box b10 [(.slice none 0 0), (.int .i64 0), (.int .i64 0)], Item.own v15 (x23.1 : ((List Int) × Int × Int)), Item.own v16 (x23.2.1 : (Int × Int × Int × Bool))]) (Fs := [F14, F13, F10, F11]) ⟨F14, _, rfl, hv15, F13, _, rfl, hv14, F10, _, rfl, hv11, F11, _, rfl, hv12, rfl⟩ (by simpa using hn8) (fun b h => (hb8 b (by simpa using h)).1)
          have hC32 : Ctx [] w0 _ [Item.own v15 (x23.1 : ((List Int) × Int × Int)), Item.box b11 [(.int .i64 0), (.int .i64 0), (.int .i64 0), (.bool false)], Item.box b10 [(.slice none 0 0), (.int .i64 0), (.int .i64 0)], Item.own v16 (x23.2.1 : (Int × Int × Int × Bool)), Item.box b7 [v12, (.int .i64 x13.2.1), (.int .i64 x13.2.2)], Item.own v12 (x13.1 : (List Int)), Item.box b4 [(.int .i64 x6), (.int .i64 x7), (.int .i64 x8), (.bool x9)], Item.box b3 [v1, (.int .i64 x4), (.int .i64 x5)], Item.own v1 (x3 : (List Int)), Item.box b2 [(.int .i64 a2.1), (.int .i64 a2.2.1), (.int .i64 a2.2.2.1), (.bool a2.2.2.2)], Item.box b1 [u1, (.int .i64 a1.2.1), (.int .i64 a1.2.2)]] := hC31.front 2 rfl
          obtain ⟨v19, rfl, hC33⟩ := st26_own hC32
          have hC34 : Ctx [] w0 _ [Item.own v16 (x23.2.1 : (Int × Int × Int × Bool)), Item.own v19 (x23.1.1 : (List Int)), Item.box b11 [(.int .i64 0), (.int .i64 0), (.int .i64 0), (.bool false)], Item.box b10 [(.slice none 0 0), (.int .i64 0), (.int .i64 0)], Item.box b7 [v12, (.int .i64 x13.2.1), (.int .i64 x13.2.2)], Item.own v12 (x13.1 : (List Int)), Item.box b4 [(.int .i64 x6), (.int .i64 x7), (.int .i64 x8), (.bool x9)], Item.box b3 [v1, (.int .i64 x4), (.int .i64 x5)], Item.own v1 (x3 : (List Int)), Item.box b2 [(.int .i64 a2.1), (.int .i64 a2.2.1), (.int .i64 a2.2.2.1), (.bool a2.2.2.2)], Item.box b1 [u1, (.int .i64 a1.2.1), (.int .i64 a1.2.2)]] := hC33.front 3 rfl
          obtain ⟨rfl, hC35⟩ := st35_own hC34
          refine WA_one 11 (by kernel_rfl) rfl ?_
          refine WL_store_box_agg (cs' := [v19, (.int .i64 x23.1.2.1), (.int .i64 x23.1.2.2)]) (new := [v19, (.int .i64 x23.1.2.1), (.int .i64 x23.1.2.2)]) hC35 2 rfl rfl (by intro v hv; simp only [List.mem_cons, List.not_mem_nil, or_false] at hv; rcases hv with rfl | rfl | rfl; exact (ro_one (hC35.ro 0 rfl)); exact rfl; exact rfl) rfl Try.sizeOf26 rfl rfl (fun w26 hC36 => ?_)
          try dsimp only [List.set] at hC36
          refine WL_nil ?_
          refine WA_one 12 (by kernel_rfl) rfl ?_
          refine WL_store_box_agg (cs' := [(.int .i64 x23.2.1.1), (.int .i64 x23.2.1.2.1), (.int .i64 x23.2.1.2.2.1), (.bool x23.2.1.2.2.2)]) (new := [(.int .i64 x23.2.1.1), (.int .i64 x23.2.1.2.1), (.int .i64 x23.2.1.2.2.1), (.bool x23.2.1.2.2.2)]) hC36 1 rfl rfl (by intro v hv; simp only [List.mem_cons, List.not_mem_nil, or_false] at hv; rcases hv with rfl | rfl | rfl | rfl; exact rfl; exact rfl; exact rfl; exact rfl) rfl Try.sizeOf35 rfl rfl (fun w27 hC37 => ?_)
          try dsimp only [List.set] at hC37
          refine WL_nil ?_
          refine WA_take 13 rfl (by kernel_rfl) (by kernel_rfl) (by kernel_rfl) rfl (fl_assign rfl) ?_
          refine WL_assign rfl rfl ?_
          refine WL_nil ?_
          refine WA_done (by kernel_rfl) ?_
          have hq3 := Option.some.inj hr7
          subst hq3
          have hC38 : Ctx [] w0 _ [Item.box b1 [u1, (.int .i64 a1.2.1), (.int .i64 a1.2.2)], Item.own v19 (x23.1.1 : (List Int)), Item.box b11 [(.int .i64 x23.2.1.1), (.int .i64 x23.2.1.2.1), (.int .i64 x23.2.1.2.2.1), (.bool x23.2.1.2.2.2)], Item.box b10 [v19, (.int .i64 x23.1.2.1), (.int .i64 x23.1.2.2)], Item.box b7 [v12, (.int .i64 x13.2.1), (.int .i64 x13.2.2)], Item.own v12 (x13.1 : (List Int)), Item.box b4 [(.int .i64 x6), (.int .i64 x7), (.int .i64 x8), (.bool x9)], Item.box b3 [v1, (.int .i64 x4), (.int .i64 x5)], Item.own v1 (x3 : (List Int)), Item.box b2 [(.int .i64 a2.1), (.int .i64 a2.2.1), (.int .i64 a2.2.2.1), (.bool a2.2.2.2)]] := hC37.front 9 rfl
          have hC39 : Ctx [] w0 _ [Item.box b2 [(.int .i64 a2.1), (.int .i64 a2.2.1), (.int .i64 a2.2.2.1), (.bool a2.2.2.2)], Item.box b1 [u1, (.int .i64 a1.2.1), (.int .i64 a1.2.2)], Item.own v19 (x23.1.1 : (List Int)), Item.box b11 [(.int .i64 x23.2.1.1), (.int .i64 x23.2.1.2.1), (.int .i64 x23.2.1.2.2.1), (.bool x23.2.1.2.2.2)], Item.box b10 [v19, (.int .i64 x23.1.2.1), (.int .i64 x23.1.2.2)], Item.box b7 [v12, (.int .i64 x13.2.1), (.int .i64 x13.2.2)], Item.own v12 (x13.1 : (List Int)), Item.box b4 [(.int .i64 x6), (.int .i64 x7), (.int .i64 x8), (.bool x9)], Item.box b3 [v1, (.int .i64 x4), (.int .i64 x5)], Item.own v1 (x3 : (List Int))] := hC38.front 9 rfl
          have hC40 : Ctx [] w0 _ [Item.own v1 (x3 : (List Int)), Item.box b2 [(.int .i64 a2.1), (.int .i64 a2.2.1), (.int .i64 a2.2.2.1), (.bool a2.2.2.2)], Item.box b1 [u1, (.int .i64 a1.2.1), (.int .i64 a1.2.2)], Item.own v19 (x23.1.1 : (List Int)), Item.box b11 [(.int .i64 x23.2.1.1), (.int .i64 x23.2.1.2.1), (.int .i64 x23.2.1.2.2.1), (.bool x23.2.1.2.2.2)], Item.box b10 [v19, (.int .i64 x23.1.2.1), (.int .i64 x23.1.2.2)], Item.box b7 [v12, (.int .i64 x13.2.1), (.int .i64 x13.2.2)], Item.own v12 (x13.1 : (List Int)), Item.box b4 [(.int .i64 x6), (.int .i64 x7), (.int .i64 x8), (.bool x9)], Item.box b3 [v1, (.int .i64 x4), (.int .i64 x5)]] := hC39.front 9 rfl
          have hC41 : Ctx [] w0 _ [Item.box b3 [v1, (.int .i64 x4), (.int .i64 x5)], Item.own v1 (x3 : (List Int)), Item.box b2 [(.int .i64 a2.1), (.int .i64 a2.2.1), (.int .i64 a2.2.2.1), (.bool a2.2.2.2)], Item.box b1 [u1, (.int .i64 a1.2.1), (.int .i64 a1.2.2)], Item.own v19 (x23.1.1 : (List Int)), Item.box b11 [(.int .i64 x23.2.1.1), (.int .i64 x23.2.1.2.1), (.int .i64 x23.2.1.2.2.1), (.bool x23.2.1.2.2.2)], Item.box b10 [v19, (.int .i64 x23.1.2.1), (.int .i64 x23.1.2.2)], Item.box b7 [v12, (.int .i64 x13.2.1), (.int .i64 x13.2.2)], Item.own v12 (x13.1 : (List Int)), Item.box b4 [(.int .i64 x6), (.int .i64 x7), (.int .i64 x8), (.bool x9)]] := hC40.front 9 rfl
          have hC42 : Ctx [] w0 _ [Item.box b4 [(.int .i64 x6), (.int .i64 x7), (.int .i64 x8), (.bool x9)], Item.box b3 [v1, (.int .i64 x4), (.int .i64 x5)], Item.own v1 (x3 : (List Int)), Item.box b2 [(.int .i64 a2.1), (.int .i64 a2.2.1), (.int .i64 a2.2.2.1), (.bool a2.2.2.2)], Item.box b1 [u1, (.int .i64 a1.2.1), (.int .i64 a1.2.2)], Item.own v19 (x23.1.1 : (List Int)), Item.box b11 [(.int .i64 x23.2.1.1), (.int .i64 x23.2.1.2.1), (.int .i64 x23.2.1.2.2.1), (.bool x23.2.1.2.2.2)], Item.box b10 [v19, (.int .i64 x23.1.2.1), (.int .i64 x23.1.2.2)], Item.box b7 [v12, (.int .i64 x13.2.1), (.int .i64 x13.2.2)], Item.own v12 (x13.1 : (List Int))] := hC41.front 9 rfl
          have hC43 : Ctx [] w0 _ [Item.own v12 (x13.1 : (List Int)), Item.box b4 [(.int .i64 x6), (.int .i64 x7), (.int .i64 x8), (.bool x9)], Item.box b3 [v1, (.int .i64 x4), (.int .i64 x5)], Item.own v1 (x3 : (List Int)), Item.box b2 [(.int .i64 a2.1), (.int .i64 a2.2.1), (.int .i64 a2.2.2.1), (.bool a2.2.2.2)], Item.box b1 [u1, (.int .i64 a1.2.1), (.int .i64 a1.2.2)], Item.own v19 (x23.1.1 : (List Int)), Item.box b11 [(.int .i64 x23.2.1.1), (.int .i64 x23.2.1.2.1), (.int .i64 x23.2.1.2.2.1), (.bool x23.2.1.2.2.2)], Item.box b10 [v19, (.int .i64 x23.1.2.1), (.int .i64 x23.1.2.2)], Item.box b7 [v12, (.int .i64 x13.2.1), (.int .i64 x13.2.2)]] := hC42.front 9 rfl
          have hC44 : Ctx [] w0 _ [Item.box b7 [v12, (.int .i64 x13.2.1), (.int .i64 x13.2.2)], Item.own v12 (x13.1 : (List Int)), Item.box b4 [(.int .i64 x6), (.int .i64 x7), (.int .i64 x8), (.bool x9)], Item.box b3 [v1, (.int .i64 x4), (.int .i64 x5)], Item.own v1 (x3 : (List Int)), Item.box b2 [(.int .i64 a2.1), (.int .i64 a2.2.1), (.int .i64 a2.2.2.1), (.bool a2.2.2.2)], Item.box b1 [u1, (.int .i64 a1.2.1), (.int .i64 a1.2.2)], Item.own v19 (x23.1.1 : (List Int)), Item.box b11 [(.int .i64 x23.2.1.1), (.int .i64 x23.2.1.2.1), (.int .i64 x23.2.1.2.2.1), (.bool x23.2.1.2.2.2)], Item.box b10 [v19, (.int .i64 x23.1.2.1), (.int .i64 x23.1.2.2)]] := hC43.front 9 rfl
          have hC45 : Ctx [] w0 _ [Item.own v19 (x23.1.1 : (List Int)), Item.box b7 [v12, (.int .i64 x13.2.1), (.int .i64 x13.2.2)], Item.own v12 (x13.1 : (List Int)), Item.box b4 [(.int .i64 x6), (.int .i64 x7), (.int .i64 x8), (.bool x9)], Item.box b3 [v1, (.int .i64 x4), (.int .i64 x5)], Item.own v1 (x3 : (List Int)), Item.box b2 [(.int .i64 a2.1), (.int .i64 a2.2.1), (.int .i64 a2.2.2.1), (.bool a2.2.2.2)], Item.box b1 [u1, (.int .i64 a1.2.1), (.int .i64 a1.2.2)], Item.box b11 [(.int .i64 x23.2.1.1), (.int .i64 x23.2.1.2.1), (.int .i64 x23.2.1.2.2.1), (.bool x23.2.1.2.2.2)], Item.box b10 [v19, (.int .i64 x23.1.2.1), (.int .i64 x23.1.2.2)]] := hC44.front 7 rfl
          have hC46 : Ctx [] w0 _ [Item.box b10 [v19, (.int .i64 x23.1.2.1), (.int .i64 x23.1.2.2)], Item.own v19 (x23.1.1 : (List Int)), Item.box b7 [v12, (.int .i64 x13.2.1), (.int .i64 x13.2.2)], Item.own v12 (x13.1 : (List Int)), Item.box b4 [(.int .i64 x6), (.int .i64 x7), (.int .i64 x8), (.bool x9)], Item.box b3 [v1, (.int .i64 x4), (.int .i64 x5)], Item.own v1 (x3 : (List Int)), Item.box b2 [(.int .i64 a2.1), (.int .i64 a2.2.1), (.int .i64 a2.2.2.1), (.bool a2.2.2.2)], Item.box b1 [u1, (.int .i64 a1.2.1), (.int .i64 a1.2.2)], Item.box b11 [(.int .i64 x23.2.1.1), (.int .i64 x23.2.1.2.1), (.int .i64 x23.2.1.2.2.1), (.bool x23.2.1.2.2.2)]] := hC45.front 9 rfl
          have hC47 : Ctx [] w0 _ [Item.box b11 [(.int .i64 x23.2.1.1), (.int .i64 x23.2.1.2.1), (.int .i64 x23.2.1.2.2.1), (.bool x23.2.1.2.2.2)], Item.box b10 [v19, (.int .i64 x23.1.2.1), (.int .i64 x23.1.2.2)], Item.own v19 (x23.1.1 : (List Int)), Item.box b7 [v12, (.int .i64 x13.2.1), (.int .i64 x13.2.2)], Item.own v12 (x13.1 : (List Int)), Item.box b4 [(.int .i64 x6), (.int .i64 x7), (.int .i64 x8), (.bool x9)], Item.box b3 [v1, (.int .i64 x4), (.int .i64 x5)], Item.own v1 (x3 : (List Int)), Item.box b2 [(.int .i64 a2.1), (.int .i64 a2.2.1), (.int .i64 a2.2.2.1), (.bool a2.2.2.2)], Item.box b1 [u1, (.int .i64 a1.2.1), (.int .i64 a1.2.2)]] := hC46.front 9 rfl
          refine nrm_sub (l' := [(2, (.int .i64 a3)), (3, (ptr b1 0)), (4, (ptr b2 0)), (8, (ptr b3 0)), (9, (ptr b4 0)), (10, (.bool x2)), (11, (ptr b7 0)), (12, (ptr b10 0)), (13, (ptr b11 0)), (14, (.bool x23.2.2))]) ⟨rfl, rfl, rfl, rfl, rfl, rfl, rfl, rfl, rfl, rfl, trivial⟩ ?_
          exact ⟨x23.2.2, b10, v19, x23.1.1, x23.1.2.1, x23.1.2.2, b11, x23.2.1.1, x23.2.1.2.1, x23.2.1.2.2.1, x23.2.1.2.2.2, rfl, rfl, hC47⟩
        · intro g' hg'
          obtain rfl : g' = 4 := hg'
          intro w25 hB22
          refine AllE_cons rfl rfl rfl ?_
          rintro _ _ ⟨rfl, rfl⟩
          refine AllE_cons rfl rfl rfl ?_
          rintro _ _ ⟨rfl, rfl⟩
          refine AllE_cons rfl rfl rfl ?_
          rintro _ _ ⟨rfl, rfl⟩
          refine AllE_cons rfl rfl rfl ?_
          rintro _ _ ⟨v15, v16, v17, F10, F11, F12, rfl, rfl, hv11, hv12, hv13⟩
          obtain ⟨rfl, rfl⟩ := val_bool hv13
          refine AllE_cons rfl rfl rfl ?_
          rintro _ _ ⟨rfl, rfl⟩
          refine AllE_cons rfl rfl rfl ?_
          rintro _ _ ⟨⟨_, hx7, hx8⟩, rfl⟩
          obtain rfl := Value.tuple.inj hx7
          obtain rfl := Option.some.inj (show (some v15 : Option Value) = some _ from hx8)
          refine AllE_cons rfl rfl rfl ?_
          rintro _ _ ⟨⟨_, hx9, hx10⟩, rfl⟩
          obtain rfl := Value.tuple.inj hx9
          obtain rfl := Option.some.inj (show (some v16 : Option Value) = some _ from hx10)
          refine AllE_cons rfl rfl rfl ?_
          rintro _ F13 ⟨b10, rfl, hv14⟩
          refine AllE_cons rfl rfl rfl ?_
          rintro _ F14 ⟨b11, rfl, hv15⟩
          refine AllE_nil ?_
          intro hn8 hb8
          have hC31 := hC28.pushL hB22 (Bs := [Item.box b11 [(.int .i64 0), (.int .i64 0), (.int .i64 0), (.bool false)], Item.box b10 [(.slice none 0 0), (.int .i64 0), (.int .i64 0)], Item.own v15 (x23.1 : ((List Int) × Int × Int)), Item.own v16 (x23.2.1 : (Int × Int × Int × Bool))]) (Fs := [F14, F13, F10, F11]) ⟨F14, _, rfl, hv15, F13, _, rfl, hv14, F10, _, rfl, hv11, F11, _, rfl, hv12, rfl⟩ (by simpa using hn8) (fun b h => (hb8 b (by simpa using h)).1)
          have hC32 : Ctx [] w0 _ [Item.own v15 (x23.1 : ((List Int) × Int × Int)), Item.box b11 [(.int .i64 0), (.int .i64 0), (.int .i64 0), (.bool false)], Item.box b10 [(.slice none 0 0), (.int .i64 0), (.int .i64 0)], Item.own v16 (x23.2.1 : (Int × Int × Int × Bool)), Item.box b7 [v12, (.int .i64 x13.2.1), (.int .i64 x13.2.2)], Item.own v12 (x13.1 : (List Int)), Item.box b4 [(.int .i64 x6), (.int .i64 x7), (.int .i64 x8), (.bool x9)], Item.box b3 [v1, (.int .i64 x4), (.int .i64 x5)], Item.own v1 (x3 : (List Int)), Item.box b2 [(.int .i64 a2.1), (.int .i64 a2.2.1), (.int .i64 a2.2.2.1), (.bool a2.2.2.2)], Item.box b1 [u1, (.int .i64 a1.2.1), (.int .i64 a1.2.2)]] := hC31.front 2 rfl
          obtain ⟨v19, rfl, hC33⟩ := st26_own hC32
          have hC34 : Ctx [] w0 _ [Item.own v16 (x23.2.1 : (Int × Int × Int × Bool)), Item.own v19 (x23.1.1 : (List Int)), Item.box b11 [(.int .i64 0), (.int .i64 0), (.int .i64 0), (.bool false)], Item.box b10 [(.slice none 0 0), (.int .i64 0), (.int .i64 0)], Item.box b7 [v12, (.int .i64 x13.2.1), (.int .i64 x13.2.2)], Item.own v12 (x13.1 : (List Int)), Item.box b4 [(.int .i64 x6), (.int .i64 x7), (.int .i64 x8), (.bool x9)], Item.box b3 [v1, (.int .i64 x4), (.int .i64 x5)], Item.own v1 (x3 : (List Int)), Item.box b2 [(.int .i64 a2.1), (.int .i64 a2.2.1), (.int .i64 a2.2.2.1), (.bool a2.2.2.2)], Item.box b1 [u1, (.int .i64 a1.2.1), (.int .i64 a1.2.2)]] := hC33.front 3 rfl
          obtain ⟨rfl, hC35⟩ := st35_own hC34
          refine WA_take 8 rfl (by kernel_rfl) (by kernel_rfl) (by kernel_rfl) rfl (fl_extract rfl rfl) ?_
          refine WL_extract rfl rfl rfl ?_
          refine WL_nil ?_
          refine WA_one 11 (by kernel_rfl) rfl ?_
          refine WL_store_box_agg (cs' := [v19, (.int .i64 x23.1.2.1), (.int .i64 x23.1.2.2)]) (new := [v19, (.int .i64 x23.1.2.1), (.int .i64 x23.1.2.2)]) hC35 2 rfl rfl (by intro v hv; simp only [List.mem_cons, List.not_mem_nil, or_false] at hv; rcases hv with rfl | rfl | rfl; exact (ro_one (hC35.ro 0 rfl)); exact rfl; exact rfl) rfl Try.sizeOf26 rfl rfl (fun w26 hC36 => ?_)
          try dsimp only [List.set] at hC36
          refine WL_nil ?_
          refine WA_one 12 (by kernel_rfl) rfl ?_
          refine WL_store_box_agg (cs' := [(.int .i64 x23.2.1.1), (.int .i64 x23.2.1.2.1), (.int .i64 x23.2.1.2.2.1), (.bool x23.2.1.2.2.2)]) (new := [(.int .i64 x23.2.1.1), (.int .i64 x23.2.1.2.1), (.int .i64 x23.2.1.2.2.1), (.bool x23.2.1.2.2.2)]) hC36 1 rfl rfl (by intro v hv; simp only [List.mem_cons, List.not_mem_nil, or_false] at hv; rcases hv with rfl | rfl | rfl | rfl; exact rfl; exact rfl; exact rfl; exact rfl) rfl Try.sizeOf35 rfl rfl (fun w27 hC37 => ?_)
          try dsimp only [List.set] at hC37
          refine WL_nil ?_
          refine WA_take 13 rfl (by kernel_rfl) (by kernel_rfl) (by kernel_rfl) rfl (fl_assign rfl) ?_
          refine WL_assign rfl rfl ?_
          refine WL_nil ?_
          refine WA_done (by kernel_rfl) ?_
          have hq3 := Option.some.inj hr7
          subst hq3
          have hC38 : Ctx [] w0 _ [Item.box b1 [u1, (.int .i64 a1.2.1), (.int .i64 a1.2.2)], Item.own v19 (x23.1.1 : (List Int)), Item.box b11 [(.int .i64 x23.2.1.1), (.int .i64 x23.2.1.2.1), (.int .i64 x23.2.1.2.2.1), (.bool x23.2.1.2.2.2)], Item.box b10 [v19, (.int .i64 x23.1.2.1), (.int .i64 x23.1.2.2)], Item.box b7 [v12, (.int .i64 x13.2.1), (.int .i64 x13.2.2)], Item.own v12 (x13.1 : (List Int)), Item.box b4 [(.int .i64 x6), (.int .i64 x7), (.int .i64 x8), (.bool x9)], Item.box b3 [v1, (.int .i64 x4), (.int .i64 x5)], Item.own v1 (x3 : (List Int)), Item.box b2 [(.int .i64 a2.1), (.int .i64 a2.2.1), (.int .i64 a2.2.2.1), (.bool a2.2.2.2)]] := hC37.front 9 rfl
          have hC39 : Ctx [] w0 _ [Item.box b2 [(.int .i64 a2.1), (.int .i64 a2.2.1), (.int .i64 a2.2.2.1), (.bool a2.2.2.2)], Item.box b1 [u1, (.int .i64 a1.2.1), (.int .i64 a1.2.2)], Item.own v19 (x23.1.1 : (List Int)), Item.box b11 [(.int .i64 x23.2.1.1), (.int .i64 x23.2.1.2.1), (.int .i64 x23.2.1.2.2.1), (.bool x23.2.1.2.2.2)], Item.box b10 [v19, (.int .i64 x23.1.2.1), (.int .i64 x23.1.2.2)], Item.box b7 [v12, (.int .i64 x13.2.1), (.int .i64 x13.2.2)], Item.own v12 (x13.1 : (List Int)), Item.box b4 [(.int .i64 x6), (.int .i64 x7), (.int .i64 x8), (.bool x9)], Item.box b3 [v1, (.int .i64 x4), (.int .i64 x5)], Item.own v1 (x3 : (List Int))] := hC38.front 9 rfl
          have hC40 : Ctx [] w0 _ [Item.own v1 (x3 : (List Int)), Item.box b2 [(.int .i64 a2.1), (.int .i64 a2.2.1), (.int .i64 a2.2.2.1), (.bool a2.2.2.2)], Item.box b1 [u1, (.int .i64 a1.2.1), (.int .i64 a1.2.2)], Item.own v19 (x23.1.1 : (List Int)), Item.box b11 [(.int .i64 x23.2.1.1), (.int .i64 x23.2.1.2.1), (.int .i64 x23.2.1.2.2.1), (.bool x23.2.1.2.2.2)], Item.box b10 [v19, (.int .i64 x23.1.2.1), (.int .i64 x23.1.2.2)], Item.box b7 [v12, (.int .i64 x13.2.1), (.int .i64 x13.2.2)], Item.own v12 (x13.1 : (List Int)), Item.box b4 [(.int .i64 x6), (.int .i64 x7), (.int .i64 x8), (.bool x9)], Item.box b3 [v1, (.int .i64 x4), (.int .i64 x5)]] := hC39.front 9 rfl
          have hC41 : Ctx [] w0 _ [Item.box b3 [v1, (.int .i64 x4), (.int .i64 x5)], Item.own v1 (x3 : (List Int)), Item.box b2 [(.int .i64 a2.1), (.int .i64 a2.2.1), (.int .i64 a2.2.2.1), (.bool a2.2.2.2)], Item.box b1 [u1, (.int .i64 a1.2.1), (.int .i64 a1.2.2)], Item.own v19 (x23.1.1 : (List Int)), Item.box b11 [(.int .i64 x23.2.1.1), (.int .i64 x23.2.1.2.1), (.int .i64 x23.2.1.2.2.1), (.bool x23.2.1.2.2.2)], Item.box b10 [v19, (.int .i64 x23.1.2.1), (.int .i64 x23.1.2.2)], Item.box b7 [v12, (.int .i64 x13.2.1), (.int .i64 x13.2.2)], Item.own v12 (x13.1 : (List Int)), Item.box b4 [(.int .i64 x6), (.int .i64 x7), (.int .i64 x8), (.bool x9)]] := hC40.front 9 rfl
          have hC42 : Ctx [] w0 _ [Item.box b4 [(.int .i64 x6), (.int .i64 x7), (.int .i64 x8), (.bool x9)], Item.box b3 [v1, (.int .i64 x4), (.int .i64 x5)], Item.own v1 (x3 : (List Int)), Item.box b2 [(.int .i64 a2.1), (.int .i64 a2.2.1), (.int .i64 a2.2.2.1), (.bool a2.2.2.2)], Item.box b1 [u1, (.int .i64 a1.2.1), (.int .i64 a1.2.2)], Item.own v19 (x23.1.1 : (List Int)), Item.box b11 [(.int .i64 x23.2.1.1), (.int .i64 x23.2.1.2.1), (.int .i64 x23.2.1.2.2.1), (.bool x23.2.1.2.2.2)], Item.box b10 [v19, (.int .i64 x23.1.2.1), (.int .i64 x23.1.2.2)], Item.box b7 [v12, (.int .i64 x13.2.1), (.int .i64 x13.2.2)], Item.own v12 (x13.1 : (List Int))] := hC41.front 9 rfl
          have hC43 : Ctx [] w0 _ [Item.own v12 (x13.1 : (List Int)), Item.box b4 [(.int .i64 x6), (.int .i64 x7), (.int .i64 x8), (.bool x9)], Item.box b3 [v1, (.int .i64 x4), (.int .i64 x5)], Item.own v1 (x3 : (List Int)), Item.box b2 [(.int .i64 a2.1), (.int .i64 a2.2.1), (.int .i64 a2.2.2.1), (.bool a2.2.2.2)], Item.box b1 [u1, (.int .i64 a1.2.1), (.int .i64 a1.2.2)], Item.own v19 (x23.1.1 : (List Int)), Item.box b11 [(.int .i64 x23.2.1.1), (.int .i64 x23.2.1.2.1), (.int .i64 x23.2.1.2.2.1), (.bool x23.2.1.2.2.2)], Item.box b10 [v19, (.int .i64 x23.1.2.1), (.int .i64 x23.1.2.2)], Item.box b7 [v12, (.int .i64 x13.2.1), (.int .i64 x13.2.2)]] := hC42.front 9 rfl
          have hC44 : Ctx [] w0 _ [Item.box b7 [v12, (.int .i64 x13.2.1), (.int .i64 x13.2.2)], Item.own v12 (x13.1 : (List Int)), Item.box b4 [(.int .i64 x6), (.int .i64 x7), (.int .i64 x8), (.bool x9)], Item.box b3 [v1, (.int .i64 x4), (.int .i64 x5)], Item.own v1 (x3 : (List Int)), Item.box b2 [(.int .i64 a2.1), (.int .i64 a2.2.1), (.int .i64 a2.2.2.1), (.bool a2.2.2.2)], Item.box b1 [u1, (.int .i64 a1.2.1), (.int .i64 a1.2.2)], Item.own v19 (x23.1.1 : (List Int)), Item.box b11 [(.int .i64 x23.2.1.1), (.int .i64 x23.2.1.2.1), (.int .i64 x23.2.1.2.2.1), (.bool x23.2.1.2.2.2)], Item.box b10 [v19, (.int .i64 x23.1.2.1), (.int .i64 x23.1.2.2)]] := hC43.front 9 rfl
          have hC45 : Ctx [] w0 _ [Item.own v19 (x23.1.1 : (List Int)), Item.box b7 [v12, (.int .i64 x13.2.1), (.int .i64 x13.2.2)], Item.own v12 (x13.1 : (List Int)), Item.box b4 [(.int .i64 x6), (.int .i64 x7), (.int .i64 x8), (.bool x9)], Item.box b3 [v1, (.int .i64 x4), (.int .i64 x5)], Item.own v1 (x3 : (List Int)), Item.box b2 [(.int .i64 a2.1), (.int .i64 a2.2.1), (.int .i64 a2.2.2.1), (.bool a2.2.2.2)], Item.box b1 [u1, (.int .i64 a1.2.1), (.int .i64 a1.2.2)], Item.box b11 [(.int .i64 x23.2.1.1), (.int .i64 x23.2.1.2.1), (.int .i64 x23.2.1.2.2.1), (.bool x23.2.1.2.2.2)], Item.box b10 [v19, (.int .i64 x23.1.2.1), (.int .i64 x23.1.2.2)]] := hC44.front 7 rfl
          have hC46 : Ctx [] w0 _ [Item.box b10 [v19, (.int .i64 x23.1.2.1), (.int .i64 x23.1.2.2)], Item.own v19 (x23.1.1 : (List Int)), Item.box b7 [v12, (.int .i64 x13.2.1), (.int .i64 x13.2.2)], Item.own v12 (x13.1 : (List Int)), Item.box b4 [(.int .i64 x6), (.int .i64 x7), (.int .i64 x8), (.bool x9)], Item.box b3 [v1, (.int .i64 x4), (.int .i64 x5)], Item.own v1 (x3 : (List Int)), Item.box b2 [(.int .i64 a2.1), (.int .i64 a2.2.1), (.int .i64 a2.2.2.1), (.bool a2.2.2.2)], Item.box b1 [u1, (.int .i64 a1.2.1), (.int .i64 a1.2.2)], Item.box b11 [(.int .i64 x23.2.1.1), (.int .i64 x23.2.1.2.1), (.int .i64 x23.2.1.2.2.1), (.bool x23.2.1.2.2.2)]] := hC45.front 9 rfl
          have hC47 : Ctx [] w0 _ [Item.box b11 [(.int .i64 x23.2.1.1), (.int .i64 x23.2.1.2.1), (.int .i64 x23.2.1.2.2.1), (.bool x23.2.1.2.2.2)], Item.box b10 [v19, (.int .i64 x23.1.2.1), (.int .i64 x23.1.2.2)], Item.own v19 (x23.1.1 : (List Int)), Item.box b7 [v12, (.int .i64 x13.2.1), (.int .i64 x13.2.2)], Item.own v12 (x13.1 : (List Int)), Item.box b4 [(.int .i64 x6), (.int .i64 x7), (.int .i64 x8), (.bool x9)], Item.box b3 [v1, (.int .i64 x4), (.int .i64 x5)], Item.own v1 (x3 : (List Int)), Item.box b2 [(.int .i64 a2.1), (.int .i64 a2.2.1), (.int .i64 a2.2.2.1), (.bool a2.2.2.2)], Item.box b1 [u1, (.int .i64 a1.2.1), (.int .i64 a1.2.2)]] := hC46.front 9 rfl
          refine nrm_sub (l' := [(2, (.int .i64 a3)), (3, (ptr b1 0)), (4, (ptr b2 0)), (8, (ptr b3 0)), (9, (ptr b4 0)), (10, (.bool x2)), (11, (ptr b7 0)), (12, (ptr b10 0)), (13, (ptr b11 0)), (14, (.bool x23.2.2))]) ⟨rfl, rfl, rfl, rfl, rfl, rfl, rfl, rfl, rfl, rfl, trivial⟩ ?_
          exact ⟨x23.2.2, b10, v19, x23.1.1, x23.1.2.1, x23.1.2.2, b11, x23.2.1.1, x23.2.1.2.1, x23.2.1.2.2.1, x23.2.1.2.2.2, rfl, rfl, hC47⟩
        · intro g' hg'
          obtain rfl : g' = 4 := hg'
          intro w25 hB22
          refine AllE_cons rfl rfl rfl ?_
          rintro _ _ ⟨rfl, rfl⟩
          refine AllE_cons rfl rfl rfl ?_
          rintro _ _ ⟨rfl, rfl⟩
          refine AllE_cons rfl rfl rfl ?_
          rintro _ _ ⟨rfl, rfl⟩
          refine AllE_cons rfl rfl rfl ?_
          rintro _ _ ⟨v15, v16, v17, F10, F11, F12, rfl, rfl, hv11, hv12, hv13⟩
          obtain ⟨rfl, rfl⟩ := val_bool hv13
          refine AllE_cons rfl rfl rfl ?_
          rintro _ _ ⟨rfl, rfl⟩
          refine AllE_cons rfl rfl rfl ?_
          rintro _ _ ⟨⟨_, hx7, hx8⟩, rfl⟩
          obtain rfl := Value.tuple.inj hx7
          obtain rfl := Option.some.inj (show (some v15 : Option Value) = some _ from hx8)
          refine AllE_cons rfl rfl rfl ?_
          rintro _ _ ⟨⟨_, hx9, hx10⟩, rfl⟩
          obtain rfl := Value.tuple.inj hx9
          obtain rfl := Option.some.inj (show (some (.bool x23.2.2) : Option Value) = some _ from hx10)
          refine AllE_cons rfl rfl rfl ?_
          rintro _ F13 ⟨b10, rfl, hv14⟩
          refine AllE_cons rfl rfl rfl ?_
          rintro _ F14 ⟨b11, rfl, hv15⟩
          refine AllE_nil ?_
          intro hn8 hb8
          have hC31 := hC28.pushL hB22 (Bs := [Item.box b11 [(.int .i64 0), (.int .i64 0), (.int .i64 0), (.bool false)], Item.box b10 [(.slice none 0 0), (.int .i64 0), (.int .i64 0)], Item.own v15 (x23.1 : ((List Int) × Int × Int)), Item.own v16 (x23.2.1 : (Int × Int × Int × Bool))]) (Fs := [F14, F13, F10, F11]) ⟨F14, _, rfl, hv15, F13, _, rfl, hv14, F10, _, rfl, hv11, F11, _, rfl, hv12, rfl⟩ (by simpa using hn8) (fun b h => (hb8 b (by simpa using h)).1)
          have hC32 : Ctx [] w0 _ [Item.own v15 (x23.1 : ((List Int) × Int × Int)), Item.box b11 [(.int .i64 0), (.int .i64 0), (.int .i64 0), (.bool false)], Item.box b10 [(.slice none 0 0), (.int .i64 0), (.int .i64 0)], Item.own v16 (x23.2.1 : (Int × Int × Int × Bool)), Item.box b7 [v12, (.int .i64 x13.2.1), (.int .i64 x13.2.2)], Item.own v12 (x13.1 : (List Int)), Item.box b4 [(.int .i64 x6), (.int .i64 x7), (.int .i64 x8), (.bool x9)], Item.box b3 [v1, (.int .i64 x4), (.int .i64 x5)], Item.own v1 (x3 : (List Int)), Item.box b2 [(.int .i64 a2.1), (.int .i64 a2.2.1), (.int .i64 a2.2.2.1), (.bool a2.2.2.2)], Item.box b1 [u1, (.int .i64 a1.2.1), (.int .i64 a1.2.2)]] := hC31.front 2 rfl
          obtain ⟨v19, rfl, hC33⟩ := st26_own hC32
          have hC34 : Ctx [] w0 _ [Item.own v16 (x23.2.1 : (Int × Int × Int × Bool)), Item.own v19 (x23.1.1 : (List Int)), Item.box b11 [(.int .i64 0), (.int .i64 0), (.int .i64 0), (.bool false)], Item.box b10 [(.slice none 0 0), (.int .i64 0), (.int .i64 0)], Item.box b7 [v12, (.int .i64 x13.2.1), (.int .i64 x13.2.2)], Item.own v12 (x13.1 : (List Int)), Item.box b4 [(.int .i64 x6), (.int .i64 x7), (.int .i64 x8), (.bool x9)], Item.box b3 [v1, (.int .i64 x4), (.int .i64 x5)], Item.own v1 (x3 : (List Int)), Item.box b2 [(.int .i64 a2.1), (.int .i64 a2.2.1), (.int .i64 a2.2.2.1), (.bool a2.2.2.2)], Item.box b1 [u1, (.int .i64 a1.2.1), (.int .i64 a1.2.2)]] := hC33.front 3 rfl
          obtain ⟨rfl, hC35⟩ := st35_own hC34
          refine WA_take 7 rfl (by kernel_rfl) (by kernel_rfl) (by kernel_rfl) rfl (fl_extract rfl rfl) ?_
          refine WL_extract rfl rfl rfl ?_
          refine WL_nil ?_
          refine WA_one 11 (by kernel_rfl) rfl ?_
          refine WL_store_box_agg (cs' := [v19, (.int .i64 x23.1.2.1), (.int .i64 x23.1.2.2)]) (new := [v19, (.int .i64 x23.1.2.1), (.int .i64 x23.1.2.2)]) hC35 2 rfl rfl (by intro v hv; simp only [List.mem_cons, List.not_mem_nil, or_false] at hv; rcases hv with rfl | rfl | rfl; exact (ro_one (hC35.ro 0 rfl)); exact rfl; exact rfl) rfl Try.sizeOf26 rfl rfl (fun w26 hC36 => ?_)
          try dsimp only [List.set] at hC36
          refine WL_nil ?_
          refine WA_one 12 (by kernel_rfl) rfl ?_
          refine WL_store_box_agg (cs' := [(.int .i64 x23.2.1.1), (.int .i64 x23.2.1.2.1), (.int .i64 x23.2.1.2.2.1), (.bool x23.2.1.2.2.2)]) (new := [(.int .i64 x23.2.1.1), (.int .i64 x23.2.1.2.1), (.int .i64 x23.2.1.2.2.1), (.bool x23.2.1.2.2.2)]) hC36 1 rfl rfl (by intro v hv; simp only [List.mem_cons, List.not_mem_nil, or_false] at hv; rcases hv with rfl | rfl | rfl | rfl; exact rfl; exact rfl; exact rfl; exact rfl) rfl Try.sizeOf35 rfl rfl (fun w27 hC37 => ?_)
          try dsimp only [List.set] at hC37
          refine WL_nil ?_
          refine WA_take 13 rfl (by kernel_rfl) (by kernel_rfl) (by kernel_rfl) rfl (fl_assign rfl) ?_
          refine WL_assign rfl rfl ?_
          refine WL_nil ?_
          refine WA_done (by kernel_rfl) ?_
          have hq3 := Option.some.inj hr7
          subst hq3
          have hC38 : Ctx [] w0 _ [Item.box b1 [u1, (.int .i64 a1.2.1), (.int .i64 a1.2.2)], Item.own v19 (x23.1.1 : (List Int)), Item.box b11 [(.int .i64 x23.2.1.1), (.int .i64 x23.2.1.2.1), (.int .i64 x23.2.1.2.2.1), (.bool x23.2.1.2.2.2)], Item.box b10 [v19, (.int .i64 x23.1.2.1), (.int .i64 x23.1.2.2)], Item.box b7 [v12, (.int .i64 x13.2.1), (.int .i64 x13.2.2)], Item.own v12 (x13.1 : (List Int)), Item.box b4 [(.int .i64 x6), (.int .i64 x7), (.int .i64 x8), (.bool x9)], Item.box b3 [v1, (.int .i64 x4), (.int .i64 x5)], Item.own v1 (x3 : (List Int)), Item.box b2 [(.int .i64 a2.1), (.int .i64 a2.2.1), (.int .i64 a2.2.2.1), (.bool a2.2.2.2)]] := hC37.front 9 rfl
          have hC39 : Ctx [] w0 _ [Item.box b2 [(.int .i64 a2.1), (.int .i64 a2.2.1), (.int .i64 a2.2.2.1), (.bool a2.2.2.2)], Item.box b1 [u1, (.int .i64 a1.2.1), (.int .i64 a1.2.2)], Item.own v19 (x23.1.1 : (List Int)), Item.box b11 [(.int .i64 x23.2.1.1), (.int .i64 x23.2.1.2.1), (.int .i64 x23.2.1.2.2.1), (.bool x23.2.1.2.2.2)], Item.box b10 [v19, (.int .i64 x23.1.2.1), (.int .i64 x23.1.2.2)], Item.box b7 [v12, (.int .i64 x13.2.1), (.int .i64 x13.2.2)], Item.own v12 (x13.1 : (List Int)), Item.box b4 [(.int .i64 x6), (.int .i64 x7), (.int .i64 x8), (.bool x9)], Item.box b3 [v1, (.int .i64 x4), (.int .i64 x5)], Item.own v1 (x3 : (List Int))] := hC38.front 9 rfl
          have hC40 : Ctx [] w0 _ [Item.own v1 (x3 : (List Int)), Item.box b2 [(.int .i64 a2.1), (.int .i64 a2.2.1), (.int .i64 a2.2.2.1), (.bool a2.2.2.2)], Item.box b1 [u1, (.int .i64 a1.2.1), (.int .i64 a1.2.2)], Item.own v19 (x23.1.1 : (List Int)), Item.box b11 [(.int .i64 x23.2.1.1), (.int .i64 x23.2.1.2.1), (.int .i64 x23.2.1.2.2.1), (.bool x23.2.1.2.2.2)], Item.box b10 [v19, (.int .i64 x23.1.2.1), (.int .i64 x23.1.2.2)], Item.box b7 [v12, (.int .i64 x13.2.1), (.int .i64 x13.2.2)], Item.own v12 (x13.1 : (List Int)), Item.box b4 [(.int .i64 x6), (.int .i64 x7), (.int .i64 x8), (.bool x9)], Item.box b3 [v1, (.int .i64 x4), (.int .i64 x5)]] := hC39.front 9 rfl
          have hC41 : Ctx [] w0 _ [Item.box b3 [v1, (.int .i64 x4), (.int .i64 x5)], Item.own v1 (x3 : (List Int)), Item.box b2 [(.int .i64 a2.1), (.int .i64 a2.2.1), (.int .i64 a2.2.2.1), (.bool a2.2.2.2)], Item.box b1 [u1, (.int .i64 a1.2.1), (.int .i64 a1.2.2)], Item.own v19 (x23.1.1 : (List Int)), Item.box b11 [(.int .i64 x23.2.1.1), (.int .i64 x23.2.1.2.1), (.int .i64 x23.2.1.2.2.1), (.bool x23.2.1.2.2.2)], Item.box b10 [v19, (.int .i64 x23.1.2.1), (.int .i64 x23.1.2.2)], Item.box b7 [v12, (.int .i64 x13.2.1), (.int .i64 x13.2.2)], Item.own v12 (x13.1 : (List Int)), Item.box b4 [(.int .i64 x6), (.int .i64 x7), (.int .i64 x8), (.bool x9)]] := hC40.front 9 rfl
          have hC42 : Ctx [] w0 _ [Item.box b4 [(.int .i64 x6), (.int .i64 x7), (.int .i64 x8), (.bool x9)], Item.box b3 [v1, (.int .i64 x4), (.int .i64 x5)], Item.own v1 (x3 : (List Int)), Item.box b2 [(.int .i64 a2.1), (.int .i64 a2.2.1), (.int .i64 a2.2.2.1), (.bool a2.2.2.2)], Item.box b1 [u1, (.int .i64 a1.2.1), (.int .i64 a1.2.2)], Item.own v19 (x23.1.1 : (List Int)), Item.box b11 [(.int .i64 x23.2.1.1), (.int .i64 x23.2.1.2.1), (.int .i64 x23.2.1.2.2.1), (.bool x23.2.1.2.2.2)], Item.box b10 [v19, (.int .i64 x23.1.2.1), (.int .i64 x23.1.2.2)], Item.box b7 [v12, (.int .i64 x13.2.1), (.int .i64 x13.2.2)], Item.own v12 (x13.1 : (List Int))] := hC41.front 9 rfl
          have hC43 : Ctx [] w0 _ [Item.own v12 (x13.1 : (List Int)), Item.box b4 [(.int .i64 x6), (.int .i64 x7), (.int .i64 x8), (.bool x9)], Item.box b3 [v1, (.int .i64 x4), (.int .i64 x5)], Item.own v1 (x3 : (List Int)), Item.box b2 [(.int .i64 a2.1), (.int .i64 a2.2.1), (.int .i64 a2.2.2.1), (.bool a2.2.2.2)], Item.box b1 [u1, (.int .i64 a1.2.1), (.int .i64 a1.2.2)], Item.own v19 (x23.1.1 : (List Int)), Item.box b11 [(.int .i64 x23.2.1.1), (.int .i64 x23.2.1.2.1), (.int .i64 x23.2.1.2.2.1), (.bool x23.2.1.2.2.2)], Item.box b10 [v19, (.int .i64 x23.1.2.1), (.int .i64 x23.1.2.2)], Item.box b7 [v12, (.int .i64 x13.2.1), (.int .i64 x13.2.2)]] := hC42.front 9 rfl
          have hC44 : Ctx [] w0 _ [Item.box b7 [v12, (.int .i64 x13.2.1), (.int .i64 x13.2.2)], Item.own v12 (x13.1 : (List Int)), Item.box b4 [(.int .i64 x6), (.int .i64 x7), (.int .i64 x8), (.bool x9)], Item.box b3 [v1, (.int .i64 x4), (.int .i64 x5)], Item.own v1 (x3 : (List Int)), Item.box b2 [(.int .i64 a2.1), (.int .i64 a2.2.1), (.int .i64 a2.2.2.1), (.bool a2.2.2.2)], Item.box b1 [u1, (.int .i64 a1.2.1), (.int .i64 a1.2.2)], Item.own v19 (x23.1.1 : (List Int)), Item.box b11 [(.int .i64 x23.2.1.1), (.int .i64 x23.2.1.2.1), (.int .i64 x23.2.1.2.2.1), (.bool x23.2.1.2.2.2)], Item.box b10 [v19, (.int .i64 x23.1.2.1), (.int .i64 x23.1.2.2)]] := hC43.front 9 rfl
          have hC45 : Ctx [] w0 _ [Item.own v19 (x23.1.1 : (List Int)), Item.box b7 [v12, (.int .i64 x13.2.1), (.int .i64 x13.2.2)], Item.own v12 (x13.1 : (List Int)), Item.box b4 [(.int .i64 x6), (.int .i64 x7), (.int .i64 x8), (.bool x9)], Item.box b3 [v1, (.int .i64 x4), (.int .i64 x5)], Item.own v1 (x3 : (List Int)), Item.box b2 [(.int .i64 a2.1), (.int .i64 a2.2.1), (.int .i64 a2.2.2.1), (.bool a2.2.2.2)], Item.box b1 [u1, (.int .i64 a1.2.1), (.int .i64 a1.2.2)], Item.box b11 [(.int .i64 x23.2.1.1), (.int .i64 x23.2.1.2.1), (.int .i64 x23.2.1.2.2.1), (.bool x23.2.1.2.2.2)], Item.box b10 [v19, (.int .i64 x23.1.2.1), (.int .i64 x23.1.2.2)]] := hC44.front 7 rfl
          have hC46 : Ctx [] w0 _ [Item.box b10 [v19, (.int .i64 x23.1.2.1), (.int .i64 x23.1.2.2)], Item.own v19 (x23.1.1 : (List Int)), Item.box b7 [v12, (.int .i64 x13.2.1), (.int .i64 x13.2.2)], Item.own v12 (x13.1 : (List Int)), Item.box b4 [(.int .i64 x6), (.int .i64 x7), (.int .i64 x8), (.bool x9)], Item.box b3 [v1, (.int .i64 x4), (.int .i64 x5)], Item.own v1 (x3 : (List Int)), Item.box b2 [(.int .i64 a2.1), (.int .i64 a2.2.1), (.int .i64 a2.2.2.1), (.bool a2.2.2.2)], Item.box b1 [u1, (.int .i64 a1.2.1), (.int .i64 a1.2.2)], Item.box b11 [(.int .i64 x23.2.1.1), (.int .i64 x23.2.1.2.1), (.int .i64 x23.2.1.2.2.1), (.bool x23.2.1.2.2.2)]] := hC45.front 9 rfl
          have hC47 : Ctx [] w0 _ [Item.box b11 [(.int .i64 x23.2.1.1), (.int .i64 x23.2.1.2.1), (.int .i64 x23.2.1.2.2.1), (.bool x23.2.1.2.2.2)], Item.box b10 [v19, (.int .i64 x23.1.2.1), (.int .i64 x23.1.2.2)], Item.own v19 (x23.1.1 : (List Int)), Item.box b7 [v12, (.int .i64 x13.2.1), (.int .i64 x13.2.2)], Item.own v12 (x13.1 : (List Int)), Item.box b4 [(.int .i64 x6), (.int .i64 x7), (.int .i64 x8), (.bool x9)], Item.box b3 [v1, (.int .i64 x4), (.int .i64 x5)], Item.own v1 (x3 : (List Int)), Item.box b2 [(.int .i64 a2.1), (.int .i64 a2.2.1), (.int .i64 a2.2.2.1), (.bool a2.2.2.2)], Item.box b1 [u1, (.int .i64 a1.2.1), (.int .i64 a1.2.2)]] := hC46.front 9 rfl
          refine nrm_sub (l' := [(2, (.int .i64 a3)), (3, (ptr b1 0)), (4, (ptr b2 0)), (8, (ptr b3 0)), (9, (ptr b4 0)), (10, (.bool x2)), (11, (ptr b7 0)), (12, (ptr b10 0)), (13, (ptr b11 0)), (14, (.bool x23.2.2))]) ⟨rfl, rfl, rfl, rfl, rfl, rfl, rfl, rfl, rfl, rfl, trivial⟩ ?_
          exact ⟨x23.2.2, b10, v19, x23.1.1, x23.1.2.1, x23.1.2.2, b11, x23.2.1.1, x23.2.1.2.1, x23.2.1.2.2.1, x23.2.1.2.2.2, rfl, rfl, hC47⟩
        · intro g' hg'
          obtain rfl : g' = 5 := hg'
          intro w25 hB22
          refine AllE_cons rfl rfl rfl ?_
          rintro _ _ ⟨rfl, rfl⟩
          refine AllE_cons rfl rfl rfl ?_
          rintro _ _ ⟨rfl, rfl⟩
          refine AllE_cons rfl rfl rfl ?_
          rintro _ _ ⟨rfl, rfl⟩
          refine AllE_cons rfl rfl rfl ?_
          rintro _ _ ⟨v15, v16, v17, F10, F11, F12, rfl, rfl, hv11, hv12, hv13⟩
          obtain ⟨rfl, rfl⟩ := val_bool hv13
          refine AllE_cons rfl rfl rfl ?_
          rintro _ _ ⟨rfl, rfl⟩
          refine AllE_cons rfl rfl rfl ?_
          rintro _ _ ⟨⟨_, hx7, hx8⟩, rfl⟩
          obtain rfl := Value.tuple.inj hx7
          obtain rfl := Option.some.inj (show (some v15 : Option Value) = some _ from hx8)
          refine AllE_cons rfl rfl rfl ?_
          rintro _ F13 ⟨b10, rfl, hv14⟩
          refine AllE_cons rfl rfl rfl ?_
          rintro _ F14 ⟨b11, rfl, hv15⟩
          refine AllE_nil ?_
          intro hn8 hb8
          have hC31 := hC28.pushL hB22 (Bs := [Item.box b11 [(.int .i64 0), (.int .i64 0), (.int .i64 0), (.bool false)], Item.box b10 [(.slice none 0 0), (.int .i64 0), (.int .i64 0)], Item.own v15 (x23.1 : ((List Int) × Int × Int)), Item.own v16 (x23.2.1 : (Int × Int × Int × Bool))]) (Fs := [F14, F13, F10, F11]) ⟨F14, _, rfl, hv15, F13, _, rfl, hv14, F10, _, rfl, hv11, F11, _, rfl, hv12, rfl⟩ (by simpa using hn8) (fun b h => (hb8 b (by simpa using h)).1)
          have hC32 : Ctx [] w0 _ [Item.own v15 (x23.1 : ((List Int) × Int × Int)), Item.box b11 [(.int .i64 0), (.int .i64 0), (.int .i64 0), (.bool false)], Item.box b10 [(.slice none 0 0), (.int .i64 0), (.int .i64 0)], Item.own v16 (x23.2.1 : (Int × Int × Int × Bool)), Item.box b7 [v12, (.int .i64 x13.2.1), (.int .i64 x13.2.2)], Item.own v12 (x13.1 : (List Int)), Item.box b4 [(.int .i64 x6), (.int .i64 x7), (.int .i64 x8), (.bool x9)], Item.box b3 [v1, (.int .i64 x4), (.int .i64 x5)], Item.own v1 (x3 : (List Int)), Item.box b2 [(.int .i64 a2.1), (.int .i64 a2.2.1), (.int .i64 a2.2.2.1), (.bool a2.2.2.2)], Item.box b1 [u1, (.int .i64 a1.2.1), (.int .i64 a1.2.2)]] := hC31.front 2 rfl
          obtain ⟨v19, rfl, hC33⟩ := st26_own hC32
          have hC34 : Ctx [] w0 _ [Item.own v16 (x23.2.1 : (Int × Int × Int × Bool)), Item.own v19 (x23.1.1 : (List Int)), Item.box b11 [(.int .i64 0), (.int .i64 0), (.int .i64 0), (.bool false)], Item.box b10 [(.slice none 0 0), (.int .i64 0), (.int .i64 0)], Item.box b7 [v12, (.int .i64 x13.2.1), (.int .i64 x13.2.2)], Item.own v12 (x13.1 : (List Int)), Item.box b4 [(.int .i64 x6), (.int .i64 x7), (.int .i64 x8), (.bool x9)], Item.box b3 [v1, (.int .i64 x4), (.int .i64 x5)], Item.own v1 (x3 : (List Int)), Item.box b2 [(.int .i64 a2.1), (.int .i64 a2.2.1), (.int .i64 a2.2.2.1), (.bool a2.2.2.2)], Item.box b1 [u1, (.int .i64 a1.2.1), (.int .i64 a1.2.2)]] := hC33.front 3 rfl
          obtain ⟨rfl, hC35⟩ := st35_own hC34
          refine WA_take 7 rfl (by kernel_rfl) (by kernel_rfl) (by kernel_rfl) rfl (fl_extract rfl rfl) ?_
          refine WL_extract rfl rfl rfl ?_
          refine WL_nil ?_
          refine WA_take 8 rfl (by kernel_rfl) (by kernel_rfl) (by kernel_rfl) rfl (fl_extract rfl rfl) ?_
          refine WL_extract rfl rfl rfl ?_
          refine WL_nil ?_
          refine WA_one 11 (by kernel_rfl) rfl ?_
          refine WL_store_box_agg (cs' := [v19, (.int .i64 x23.1.2.1), (.int .i64 x23.1.2.2)]) (new := [v19, (.int .i64 x23.1.2.1), (.int .i64 x23.1.2.2)]) hC35 2 rfl rfl (by intro v hv; simp only [List.mem_cons, List.not_mem_nil, or_false] at hv; rcases hv with rfl | rfl | rfl; exact (ro_one (hC35.ro 0 rfl)); exact rfl; exact rfl) rfl Try.sizeOf26 rfl rfl (fun w26 hC36 => ?_)
          try dsimp only [List.set] at hC36
          refine WL_nil ?_
          refine WA_one 12 (by kernel_rfl) rfl ?_
          refine WL_store_box_agg (cs' := [(.int .i64 x23.2.1.1), (.int .i64 x23.2.1.2.1), (.int .i64 x23.2.1.2.2.1), (.bool x23.2.1.2.2.2)]) (new := [(.int .i64 x23.2.1.1), (.int .i64 x23.2.1.2.1), (.int .i64 x23.2.1.2.2.1), (.bool x23.2.1.2.2.2)]) hC36 1 rfl rfl (by intro v hv; simp only [List.mem_cons, List.not_mem_nil, or_false] at hv; rcases hv with rfl | rfl | rfl | rfl; exact rfl; exact rfl; exact rfl; exact rfl) rfl Try.sizeOf35 rfl rfl (fun w27 hC37 => ?_)
          try dsimp only [List.set] at hC37
          refine WL_nil ?_
          refine WA_take 13 rfl (by kernel_rfl) (by kernel_rfl) (by kernel_rfl) rfl (fl_assign rfl) ?_
          refine WL_assign rfl rfl ?_
          refine WL_nil ?_
          refine WA_done (by kernel_rfl) ?_
          have hq3 := Option.some.inj hr7
          subst hq3
          have hC38 : Ctx [] w0 _ [Item.box b1 [u1, (.int .i64 a1.2.1), (.int .i64 a1.2.2)], Item.own v19 (x23.1.1 : (List Int)), Item.box b11 [(.int .i64 x23.2.1.1), (.int .i64 x23.2.1.2.1), (.int .i64 x23.2.1.2.2.1), (.bool x23.2.1.2.2.2)], Item.box b10 [v19, (.int .i64 x23.1.2.1), (.int .i64 x23.1.2.2)], Item.box b7 [v12, (.int .i64 x13.2.1), (.int .i64 x13.2.2)], Item.own v12 (x13.1 : (List Int)), Item.box b4 [(.int .i64 x6), (.int .i64 x7), (.int .i64 x8), (.bool x9)], Item.box b3 [v1, (.int .i64 x4), (.int .i64 x5)], Item.own v1 (x3 : (List Int)), Item.box b2 [(.int .i64 a2.1), (.int .i64 a2.2.1), (.int .i64 a2.2.2.1), (.bool a2.2.2.2)]] := hC37.front 9 rfl
          have hC39 : Ctx [] w0 _ [Item.box b2 [(.int .i64 a2.1), (.int .i64 a2.2.1), (.int .i64 a2.2.2.1), (.bool a2.2.2.2)], Item.box b1 [u1, (.int .i64 a1.2.1), (.int .i64 a1.2.2)], Item.own v19 (x23.1.1 : (List Int)), Item.box b11 [(.int .i64 x23.2.1.1), (.int .i64 x23.2.1.2.1), (.int .i64 x23.2.1.2.2.1), (.bool x23.2.1.2.2.2)], Item.box b10 [v19, (.int .i64 x23.1.2.1), (.int .i64 x23.1.2.2)], Item.box b7 [v12, (.int .i64 x13.2.1), (.int .i64 x13.2.2)], Item.own v12 (x13.1 : (List Int)), Item.box b4 [(.int .i64 x6), (.int .i64 x7), (.int .i64 x8), (.bool x9)], Item.box b3 [v1, (.int .i64 x4), (.int .i64 x5)], Item.own v1 (x3 : (List Int))] := hC38.front 9 rfl
          have hC40 : Ctx [] w0 _ [Item.own v1 (x3 : (List Int)), Item.box b2 [(.int .i64 a2.1), (.int .i64 a2.2.1), (.int .i64 a2.2.2.1), (.bool a2.2.2.2)], Item.box b1 [u1, (.int .i64 a1.2.1), (.int .i64 a1.2.2)], Item.own v19 (x23.1.1 : (List Int)), Item.box b11 [(.int .i64 x23.2.1.1), (.int .i64 x23.2.1.2.1), (.int .i64 x23.2.1.2.2.1), (.bool x23.2.1.2.2.2)], Item.box b10 [v19, (.int .i64 x23.1.2.1), (.int .i64 x23.1.2.2)], Item.box b7 [v12, (.int .i64 x13.2.1), (.int .i64 x13.2.2)], Item.own v12 (x13.1 : (List Int)), Item.box b4 [(.int .i64 x6), (.int .i64 x7), (.int .i64 x8), (.bool x9)], Item.box b3 [v1, (.int .i64 x4), (.int .i64 x5)]] := hC39.front 9 rfl
          have hC41 : Ctx [] w0 _ [Item.box b3 [v1, (.int .i64 x4), (.int .i64 x5)], Item.own v1 (x3 : (List Int)), Item.box b2 [(.int .i64 a2.1), (.int .i64 a2.2.1), (.int .i64 a2.2.2.1), (.bool a2.2.2.2)], Item.box b1 [u1, (.int .i64 a1.2.1), (.int .i64 a1.2.2)], Item.own v19 (x23.1.1 : (List Int)), Item.box b11 [(.int .i64 x23.2.1.1), (.int .i64 x23.2.1.2.1), (.int .i64 x23.2.1.2.2.1), (.bool x23.2.1.2.2.2)], Item.box b10 [v19, (.int .i64 x23.1.2.1), (.int .i64 x23.1.2.2)], Item.box b7 [v12, (.int .i64 x13.2.1), (.int .i64 x13.2.2)], Item.own v12 (x13.1 : (List Int)), Item.box b4 [(.int .i64 x6), (.int .i64 x7), (.int .i64 x8), (.bool x9)]] := hC40.front 9 rfl
          have hC42 : Ctx [] w0 _ [Item.box b4 [(.int .i64 x6), (.int .i64 x7), (.int .i64 x8), (.bool x9)], Item.box b3 [v1, (.int .i64 x4), (.int .i64 x5)], Item.own v1 (x3 : (List Int)), Item.box b2 [(.int .i64 a2.1), (.int .i64 a2.2.1), (.int .i64 a2.2.2.1), (.bool a2.2.2.2)], Item.box b1 [u1, (.int .i64 a1.2.1), (.int .i64 a1.2.2)], Item.own v19 (x23.1.1 : (List Int)), Item.box b11 [(.int .i64 x23.2.1.1), (.int .i64 x23.2.1.2.1), (.int .i64 x23.2.1.2.2.1), (.bool x23.2.1.2.2.2)], Item.box b10 [v19, (.int .i64 x23.1.2.1), (.int .i64 x23.1.2.2)], Item.box b7 [v12, (.int .i64 x13.2.1), (.int .i64 x13.2.2)], Item.own v12 (x13.1 : (List Int))] := hC41.front 9 rfl
          have hC43 : Ctx [] w0 _ [Item.own v12 (x13.1 : (List Int)), Item.box b4 [(.int .i64 x6), (.int .i64 x7), (.int .i64 x8), (.bool x9)], Item.box b3 [v1, (.int .i64 x4), (.int .i64 x5)], Item.own v1 (x3 : (List Int)), Item.box b2 [(.int .i64 a2.1), (.int .i64 a2.2.1), (.int .i64 a2.2.2.1), (.bool a2.2.2.2)], Item.box b1 [u1, (.int .i64 a1.2.1), (.int .i64 a1.2.2)], Item.own v19 (x23.1.1 : (List Int)), Item.box b11 [(.int .i64 x23.2.1.1), (.int .i64 x23.2.1.2.1), (.int .i64 x23.2.1.2.2.1), (.bool x23.2.1.2.2.2)], Item.box b10 [v19, (.int .i64 x23.1.2.1), (.int .i64 x23.1.2.2)], Item.box b7 [v12, (.int .i64 x13.2.1), (.int .i64 x13.2.2)]] := hC42.front 9 rfl
          have hC44 : Ctx [] w0 _ [Item.box b7 [v12, (.int .i64 x13.2.1), (.int .i64 x13.2.2)], Item.own v12 (x13.1 : (List Int)), Item.box b4 [(.int .i64 x6), (.int .i64 x7), (.int .i64 x8), (.bool x9)], Item.box b3 [v1, (.int .i64 x4), (.int .i64 x5)], Item.own v1 (x3 : (List Int)), Item.box b2 [(.int .i64 a2.1), (.int .i64 a2.2.1), (.int .i64 a2.2.2.1), (.bool a2.2.2.2)], Item.box b1 [u1, (.int .i64 a1.2.1), (.int .i64 a1.2.2)], Item.own v19 (x23.1.1 : (List Int)), Item.box b11 [(.int .i64 x23.2.1.1), (.int .i64 x23.2.1.2.1), (.int .i64 x23.2.1.2.2.1), (.bool x23.2.1.2.2.2)], Item.box b10 [v19, (.int .i64 x23.1.2.1), (.int .i64 x23.1.2.2)]] := hC43.front 9 rfl
          have hC45 : Ctx [] w0 _ [Item.own v19 (x23.1.1 : (List Int)), Item.box b7 [v12, (.int .i64 x13.2.1), (.int .i64 x13.2.2)], Item.own v12 (x13.1 : (List Int)), Item.box b4 [(.int .i64 x6), (.int .i64 x7), (.int .i64 x8), (.bool x9)], Item.box b3 [v1, (.int .i64 x4), (.int .i64 x5)], Item.own v1 (x3 : (List Int)), Item.box b2 [(.int .i64 a2.1), (.int .i64 a2.2.1), (.int .i64 a2.2.2.1), (.bool a2.2.2.2)], Item.box b1 [u1, (.int .i64 a1.2.1), (.int .i64 a1.2.2)], Item.box b11 [(.int .i64 x23.2.1.1), (.int .i64 x23.2.1.2.1), (.int .i64 x23.2.1.2.2.1), (.bool x23.2.1.2.2.2)], Item.box b10 [v19, (.int .i64 x23.1.2.1), (.int .i64 x23.1.2.2)]] := hC44.front 7 rfl
          have hC46 : Ctx [] w0 _ [Item.box b10 [v19, (.int .i64 x23.1.2.1), (.int .i64 x23.1.2.2)], Item.own v19 (x23.1.1 : (List Int)), Item.box b7 [v12, (.int .i64 x13.2.1), (.int .i64 x13.2.2)], Item.own v12 (x13.1 : (List Int)), Item.box b4 [(.int .i64 x6), (.int .i64 x7), (.int .i64 x8), (.bool x9)], Item.box b3 [v1, (.int .i64 x4), (.int .i64 x5)], Item.own v1 (x3 : (List Int)), Item.box b2 [(.int .i64 a2.1), (.int .i64 a2.2.1), (.int .i64 a2.2.2.1), (.bool a2.2.2.2)], Item.box b1 [u1, (.int .i64 a1.2.1), (.int .i64 a1.2.2)], Item.box b11 [(.int .i64 x23.2.1.1), (.int .i64 x23.2.1.2.1), (.int .i64 x23.2.1.2.2.1), (.bool x23.2.1.2.2.2)]] := hC45.front 9 rfl
          have hC47 : Ctx [] w0 _ [Item.box b11 [(.int .i64 x23.2.1.1), (.int .i64 x23.2.1.2.1), (.int .i64 x23.2.1.2.2.1), (.bool x23.2.1.2.2.2)], Item.box b10 [v19, (.int .i64 x23.1.2.1), (.int .i64 x23.1.2.2)], Item.own v19 (x23.1.1 : (List Int)), Item.box b7 [v12, (.int .i64 x13.2.1), (.int .i64 x13.2.2)], Item.own v12 (x13.1 : (List Int)), Item.box b4 [(.int .i64 x6), (.int .i64 x7), (.int .i64 x8), (.bool x9)], Item.box b3 [v1, (.int .i64 x4), (.int .i64 x5)], Item.own v1 (x3 : (List Int)), Item.box b2 [(.int .i64 a2.1), (.int .i64 a2.2.1), (.int .i64 a2.2.2.1), (.bool a2.2.2.2)], Item.box b1 [u1, (.int .i64 a1.2.1), (.int .i64 a1.2.2)]] := hC46.front 9 rfl
          refine nrm_sub (l' := [(2, (.int .i64 a3)), (3, (ptr b1 0)), (4, (ptr b2 0)), (8, (ptr b3 0)), (9, (ptr b4 0)), (10, (.bool x2)), (11, (ptr b7 0)), (12, (ptr b10 0)), (13, (ptr b11 0)), (14, (.bool x23.2.2))]) ⟨rfl, rfl, rfl, rfl, rfl, rfl, rfl, rfl, rfl, rfl, trivial⟩ ?_
          exact ⟨x23.2.2, b10, v19, x23.1.1, x23.1.2.1, x23.1.2.2, b11, x23.2.1.1, x23.2.1.2.1, x23.2.1.2.2.1, x23.2.1.2.2.2, rfl, rfl, hC47⟩
      · rintro _ w18 ⟨x14, b8, v13, x15, x16, x17, b9, x18, x19, x20, x21, rfl, rfl, hC27⟩
        try dsimp only at hF
        refine W_seq ?_
        obtain ⟨r3, hr10, hF⟩ := bind_some hF
        refine W_cut (fun l w => ∃ x24 : Bool, x24 = r3 ∧ l = [(2, (.int .i64 a3)), (3, (ptr b1 0)), (4, (ptr b2 0)), (8, (ptr b3 0)), (9, (ptr b4 0)), (10, (.bool x2)), (11, (ptr b7 0)), (12, (ptr b8 0)), (13, (ptr b9 0)), (14, (.bool x14)), (61, (.bool x24))] ∧ Below w18.heap.size w18 w ∧ Ctx [] w0 w [Item.box b9 [(.int .i64 x18), (.int .i64 x19), (.int .i64 x20), (.bool x21)], Item.box b8 [v13, (.int .i64 x16), (.int .i64 x17)], Item.own v13 (x15 : (List Int)), Item.box b7 [v12, (.int .i64 x13.2.1), (.int .i64 x13.2.2)], Item.own v12 (x13.1 : (List Int)), Item.box b4 [(.int .i64 x6), (.int .i64 x7), (.int .i64 x8), (.bool x9)], Item.box b3 [v1, (.int .i64 x4), (.int .i64 x5)], Item.own v1 (x3 : (List Int)), Item.box b2 [(.int .i64 a2.1), (.int .i64 a2.2.1), (.int .i64 a2.2.2.1), (.bool a2.2.2.2)], Item.box b1 [u1, (.int .i64 a1.2.1), (.int .i64 a1.2.2)]]) ?_ ?_
        · refine W_reg ?_
          refine WL_load_box_agg [v13, (.int .i64 x16), (.int .i64 x17)] hC27 1 rfl rfl rfl Try.isAgg26 Try.sizeOf26 rfl rfl ?_
          refine WL_load_box_agg [v1, (.int .i64 x4), (.int .i64 x5)] hC27 6 rfl rfl rfl Try.isAgg26 Try.sizeOf26 rfl rfl ?_
          obtain ⟨x25, hr11, hr10⟩ := bind_some hr10
          refine WL_call Try.call19 rfl rfl (c_Q_eqLedger (x15, x16, x17) v13 ((hC27.ro 2 rfl).now (Keep.refl _ _)) (x3, x4, x5) v1 ((hC27.ro 7 rfl).now (Keep.refl _ _)) x25 hr11) ?_
          intro _ w29 hv16
          obtain ⟨rfl, hB24⟩ := res_bool hv16
          have hC49 := hC27.grow hB24
          refine WL_not rfl rfl ?_
          refine WL_move rfl rfl ?_
          refine WL_fork (fun hc2 => ?_) (fun hc2 => ?_)
          · replace hr10 := ite_t hr10 hc2
            refine WL_guard_skip rfl rfl (by simp) rfl ?_
            refine WL_guard_skip rfl rfl (by simp) rfl ?_
            refine WL_guard_skip rfl rfl (by simp) rfl ?_
            refine WL_guard_skip rfl rfl (by simp) rfl ?_
            refine WL_pick_t rfl rfl rfl ?_
            refine WL_move rfl rfl ?_
            refine WL_guard_skip rfl rfl (by simp) rfl ?_
            refine WL_guard_skip rfl rfl (by simp) rfl ?_
            refine WL_guard_skip rfl rfl (by simp) rfl ?_
            refine WL_pick_t rfl rfl rfl ?_
            refine WL_nil ?_
            have hq4 := Option.some.inj hr10
            subst hq4
            refine nrm_sub (l' := [(2, (.int .i64 a3)), (3, (ptr b1 0)), (4, (ptr b2 0)), (8, (ptr b3 0)), (9, (ptr b4 0)), (10, (.bool x2)), (11, (ptr b7 0)), (12, (ptr b8 0)), (13, (ptr b9 0)), (14, (.bool x14)), (61, (.bool true))]) ⟨rfl, rfl, rfl, rfl, rfl, rfl, rfl, rfl, rfl, rfl, rfl, trivial⟩ ?_
            exact ⟨true, rfl, rfl, (Keep.of hB24).below, hC49⟩
          · replace hr10 := ite_f hr10 hc2
            refine WL_guard rfl rfl ?_
            refine WL_load_box_agg [(.int .i64 x18), (.int .i64 x19), (.int .i64 x20), (.bool x21)] hC49 0 rfl rfl rfl Try.isAgg35 Try.sizeOf35 rfl rfl ?_
            refine WL_guard rfl rfl ?_
            refine WL_load_box_agg [(.int .i64 x6), (.int .i64 x7), (.int .i64 x8), (.bool x9)] hC49 5 rfl rfl rfl Try.isAgg35 Try.sizeOf35 rfl rfl ?_
            obtain ⟨x26, hr12, hr10⟩ := bind_some hr10
            refine WL_guard rfl rfl ?_
            refine WL_call Try.call25 rfl rfl (c_Q_eqCall (x18, x19, x20, x21) (x6, x7, x8, x9) x26 hr12) ?_
            intro _ w30 hv17
            obtain ⟨rfl, hB25⟩ := res_bool hv17
            have hC50 := hC49.grow hB25
            refine WL_guard rfl rfl ?_
            refine WL_not rfl rfl ?_
            refine WL_pick_f rfl rfl rfl ?_
            refine WL_move rfl rfl ?_
            refine WL_fork (fun hc3 => ?_) (fun hc3 => ?_)
            · replace hr10 := ite_t hr10 hc3
              refine WL_guard_skip rfl rfl (by simp) rfl ?_
              refine WL_guard_skip rfl rfl (by simp) rfl ?_
              refine WL_guard_skip rfl rfl (by simp) rfl ?_
              refine WL_pick_t rfl rfl rfl ?_
              refine WL_nil ?_
              have hq5 := Option.some.inj hr10
              subst hq5
              refine nrm_sub (l' := [(2, (.int .i64 a3)), (3, (ptr b1 0)), (4, (ptr b2 0)), (8, (ptr b3 0)), (9, (ptr b4 0)), (10, (.bool x2)), (11, (ptr b7 0)), (12, (ptr b8 0)), (13, (ptr b9 0)), (14, (.bool x14)), (61, (.bool true))]) ⟨rfl, rfl, rfl, rfl, rfl, rfl, rfl, rfl, rfl, rfl, rfl, trivial⟩ ?_
              exact ⟨true, rfl, rfl, ((Keep.of hB24).then hB25).below, hC50⟩
            · replace hr10 := ite_f hr10 hc3
              refine WL_guard rfl rfl ?_
              refine WL_move rfl rfl ?_
              refine WL_guard rfl rfl ?_
              refine WL_move rfl rfl ?_
              refine WL_guard rfl rfl ?_
              refine WL_bool_neq Try.underlying4 rfl rfl rfl ?_
              refine WL_pick_f rfl rfl rfl ?_
              refine WL_nil ?_
              have hq6 := Option.some.inj hr10
              subst hq6
              refine nrm_sub (l' := [(2, (.int .i64 a3)), (3, (ptr b1 0)), (4, (ptr b2 0)), (8, (ptr b3 0)), (9, (ptr b4 0)), (10, (.bool x2)), (11, (ptr b7 0)), (12, (ptr b8 0)), (13, (ptr b9 0)), (14, (.bool x14)), (61, (.bool (!decide (x14 = x2))))]) ⟨rfl, rfl, rfl, rfl, rfl, rfl, rfl, rfl, rfl, rfl, rfl, trivial⟩ ?_
              exact ⟨(!decide (x14 = x2)), rfl, rfl, ((Keep.of hB24).then hB25).below, hC50⟩
        · rintro _ w28 ⟨x24, rfl, rfl, hB23, hC48⟩
          try dsimp only at hF
          refine W_cond rfl (fun hc4 => ?_) (fun hc4 => ?_)
          · replace hF := ite_t hF hc4
            refine W_seq_reg ?_
            refine WL_assign rfl rfl ?_
            refine WL_nil ?_
            refine W_ret ?_
            refine nrm_ret ?_
            have hq7 := Option.some.inj hF
            subst hq7
            refine fn_ret1 rfl rfl ?_
            exact ⟨_, rfl, bool_res hC48 _⟩
          · replace hF := ite_f hF hc4
            refine W_skip ?_
            refine nrm_normal ?_
            refine W_seq ?_
            refine W_seq ?_
            refine W_drawn 5 rfl hmix (fun w31 hB26 => ?_)
            have hC51 := hC48.grow hB26
            obtain ⟨x27, hr13, hF⟩ := bind_some hF
            refine WA.sub (l' := [(2, (.int .i64 a3)), (3, (ptr b1 0)), (4, (ptr b2 0)), (8, (ptr b3 0)), (9, (ptr b4 0)), (10, (.bool x2)), (11, (ptr b7 0)), (12, (ptr b8 0)), (13, (ptr b9 0)), (14, (.bool x14)), (61, (.bool x24))]) ?_ ⟨rfl, rfl, rfl, rfl, rfl, rfl, rfl, rfl, rfl, rfl, rfl, trivial⟩
            refine WA_postsE [⟨0, [], fun vs => PW.val (.agg #[v12, (.int .i64 x13.2.1), (.int .i64 x13.2.2)]), []⟩, ⟨1, [], fun vs => PW.val (.agg #[u1, (.int .i64 a1.2.1), (.int .i64 a1.2.2)]), []⟩, ⟨2, [], fun vs => PW.own x27, []⟩] [[], [], [1]] 2 rfl (by kernel_rfl) (by kernel_rfl) rfl ?_ ?_
            · refine StepsE_cons rfl ?_ ?_
              · intro w33 hB28
                refine DepsE_nil ?_
                refine ⟨_, rfl, ?_⟩
                refine WL_load_box_agg [v12, (.int .i64 x13.2.1), (.int .i64 x13.2.2)] (hC51.grow hB28) 3 rfl rfl rfl Try.isAgg26 Try.sizeOf26 rfl rfl ?_
                refine WL_nil ?_
                exact FinE_val (Below.refl _ _) rfl rfl ⟨rfl, rfl⟩
              refine StepsE_cons rfl ?_ ?_
              · intro w33 hB28
                refine DepsE_nil ?_
                refine ⟨_, rfl, ?_⟩
                refine WL_load_box_agg [u1, (.int .i64 a1.2.1), (.int .i64 a1.2.2)] (hC51.grow hB28) 9 rfl rfl rfl Try.isAgg24 Try.sizeOf24 rfl rfl ?_
                refine WL_nil ?_
                exact FinE_val (Below.refl _ _) rfl rfl ⟨rfl, rfl⟩
              refine StepsE_cons rfl ?_ ?_
              · intro w33 hB28
                refine DepsE_cons rfl rfl rfl ?_
                rintro _ _ ⟨rfl, rfl⟩ _
                refine DepsE_nil ?_
                refine ⟨_, rfl, ?_⟩
                refine WL_call Try.call17 rfl rfl (c_Q_toLedger (a1.1, a1.2.1, a1.2.2) u1 (g1.now (hC51.keep.then hB28)) x27 hr13) ?_
                rintro v20 w32 ⟨hB27, F15, hv18, hn9, hb9⟩
                refine WL_nil ?_
                exact FinE_own hB27 rfl rfl hv18 hn9 hb9 (Val.inh hv18)
              exact StepsE_nil
            · intro w34 hB29
              refine AllE_cons rfl rfl rfl ?_
              rintro _ _ ⟨rfl, rfl⟩
              refine AllE_cons rfl rfl rfl ?_
              rintro _ _ ⟨rfl, rfl⟩
              refine AllE_cons rfl rfl rfl ?_
              intro v20 F15 hv18
              refine AllE_nil ?_
              intro hn10 hb10
              have hC52 := hC51.pushL hB29 (Bs := [Item.own v20 (x27 : ((List Int) × Int × Int))]) (Fs := [F15]) ⟨F15, _, rfl, hv18, rfl⟩ (by simpa using hn10) (fun b h => (hb10 b (by simpa using h)).1)
              obtain ⟨v22, rfl, hC53⟩ := st26_own hC52
              obtain ⟨x28, hr14, hF⟩ := bind_some hF
              refine WA_one 3 (by kernel_rfl) rfl ?_
              refine WL_call Try.call19 rfl rfl (c_Q_eqLedger (x13.1, x13.2.1, x13.2.2) v12 ((hC53.ro 5 rfl).now (Keep.refl _ _)) x27 v22 ((hC53.ro 0 rfl).now (Keep.refl _ _)) x28 hr14) ?_
              intro _ w35 hv19
              obtain ⟨rfl, hB30⟩ := res_bool hv19
              have hC54 := hC53.grow hB30
              refine WL_nil ?_
              refine WA_take 4 rfl (by kernel_rfl) (by kernel_rfl) (by kernel_rfl) rfl (fl_not rfl) ?_
              refine WL_not rfl rfl ?_
              refine WL_nil ?_
              refine WA_done (by kernel_rfl) ?_
              refine nrm_normal ?_
              refine W_cond rfl (fun hc5 => ?_) (fun hc5 => ?_)
              · replace hF := ite_t hF hc5
                refine W_seq_reg ?_
                refine WL_assign rfl rfl ?_
                refine WL_nil ?_
                refine W_ret ?_
                refine nrm_ret ?_
                have hq8 := Option.some.inj hF
                subst hq8
                refine fn_ret1 rfl rfl ?_
                exact ⟨_, rfl, bool_res hC54 _⟩
              · replace hF := ite_f hF hc5
                refine W_skip ?_
                refine nrm_normal ?_
                refine W_seq_reg ?_
                refine WL_assign rfl rfl ?_
                refine WL_nil ?_
                refine W_seq_reg ?_
                refine WL_load_box_agg [v12, (.int .i64 x13.2.1), (.int .i64 x13.2.2)] hC54 4 rfl rfl rfl Try.isAgg26 Try.sizeOf26 rfl rfl ?_
                refine WL_move rfl rfl ?_
                obtain ⟨x29, hr15, hF⟩ := bind_some hF
                have hC55 : Ctx [] w0 _ [Item.own v12 (x13.1 : (List Int)), Item.own v22 (x27.1 : (List Int)), Item.box b9 [(.int .i64 x18), (.int .i64 x19), (.int .i64 x20), (.bool x21)], Item.box b8 [v13, (.int .i64 x16), (.int .i64 x17)], Item.own v13 (x15 : (List Int)), Item.box b7 [v12, (.int .i64 x13.2.1), (.int .i64 x13.2.2)], Item.box b4 [(.int .i64 x6), (.int .i64 x7), (.int .i64 x8), (.bool x9)], Item.box b3 [v1, (.int .i64 x4), (.int .i64 x5)], Item.own v1 (x3 : (List Int)), Item.box b2 [(.int .i64 a2.1), (.int .i64 a2.2.1), (.int .i64 a2.2.2.1), (.bool a2.2.2.2)], Item.box b1 [u1, (.int .i64 a1.2.1), (.int .i64 a1.2.2)]] := hC54.front 5 rfl
                obtain ⟨Fs1, hH1, hn11, hF1, hO1, hb11⟩ := Ctx.lend2 (As := [Item.own v22 (x27.1 : (List Int)), Item.box b9 [(.int .i64 x18), (.int .i64 x19), (.int .i64 x20), (.bool x21)], Item.box b8 [v13, (.int .i64 x16), (.int .i64 x17)], Item.own v13 (x15 : (List Int)), Item.box b7 [v12, (.int .i64 x13.2.1), (.int .i64 x13.2.2)], Item.box b4 [(.int .i64 x6), (.int .i64 x7), (.int .i64 x8), (.bool x9)], Item.box b3 [v1, (.int .i64 x4), (.int .i64 x5)], Item.own v1 (x3 : (List Int)), Item.box b2 [(.int .i64 a2.1), (.int .i64 a2.2.1), (.int .i64 a2.2.2.1), (.bool a2.2.2.2)], Item.box b1 [u1, (.int .i64 a1.2.1), (.int .i64 a1.2.2)]]) [Item.own v12 (x13.1 : (List Int))] hC55
                refine WL_call Try.call20 rfl rfl (c_Q_markLedger (x13.1, x13.2.1, x13.2.2) v12 1 hH1 hn11 x29 hr15) ?_
                rintro _ w36 ⟨rfl, hq9⟩
                have hC56 : Ctx [] w0 w36 [Item.own v12 (x29.2.1 : (List Int)), Item.own v22 (x27.1 : (List Int)), Item.box b9 [(.int .i64 x18), (.int .i64 x19), (.int .i64 x20), (.bool x21)], Item.box b8 [v13, (.int .i64 x16), (.int .i64 x17)], Item.own v13 (x15 : (List Int)), Item.box b7 [v12, (.int .i64 x13.2.1), (.int .i64 x13.2.2)], Item.box b4 [(.int .i64 x6), (.int .i64 x7), (.int .i64 x8), (.bool x9)], Item.box b3 [v1, (.int .i64 x4), (.int .i64 x5)], Item.own v1 (x3 : (List Int)), Item.box b2 [(.int .i64 a2.1), (.int .i64 a2.2.1), (.int .i64 a2.2.2.1), (.bool a2.2.2.2)], Item.box b1 [u1, (.int .i64 a1.2.1), (.int .i64 a1.2.2)]] := hb11 _ _ hq9
                refine WL_assign rfl rfl ?_
                refine WL_nil ?_
                refine W_seq ?_
                obtain ⟨r4, hr16, hF⟩ := bind_some hF
                refine W_cut (fun l w => ∃ x30 : Bool, x30 = r4 ∧ l = [(2, (.int .i64 a3)), (3, (ptr b1 0)), (4, (ptr b2 0)), (8, (ptr b3 0)), (9, (ptr b4 0)), (10, (.bool x2)), (12, (ptr b8 0)), (88, (.bool x30))] ∧ Below w36.heap.size w36 w ∧ Ctx [] w0 w [Item.box b8 [v13, (.int .i64 x16), (.int .i64 x17)], Item.own v13 (x15 : (List Int)), Item.box b4 [(.int .i64 x6), (.int .i64 x7), (.int .i64 x8), (.bool x9)], Item.box b3 [v1, (.int .i64 x4), (.int .i64 x5)], Item.own v1 (x3 : (List Int)), Item.box b2 [(.int .i64 a2.1), (.int .i64 a2.2.1), (.int .i64 a2.2.2.1), (.bool a2.2.2.2)], Item.box b1 [u1, (.int .i64 a1.2.1), (.int .i64 a1.2.2)]]) ?_ ?_
                · refine W_reg ?_
                  refine WL_move rfl rfl ?_
                  refine WL_lss rfl rfl rfl ?_
                  refine WL_move rfl rfl ?_
                  refine WL_fork (fun hc6 => ?_) (fun hc6 => ?_)
                  · replace hr16 := ite_t hr16 hc6
                    refine WL_guard_skip rfl rfl (by simp) rfl ?_
                    refine WL_guard_skip rfl rfl (by simp) rfl ?_
                    refine WL_guard_skip rfl rfl (by simp) rfl ?_
                    refine WL_guard_skip rfl rfl (by simp) rfl ?_
                    refine WL_pick_t rfl rfl rfl ?_
                    refine WL_move rfl rfl ?_
                    refine WL_guard_skip rfl rfl (by simp) rfl ?_
                    refine WL_guard_skip rfl rfl (by simp) rfl ?_
                    refine WL_guard_skip rfl rfl (by simp) rfl ?_
                    refine WL_guard_skip rfl rfl (by simp) rfl ?_
                    refine WL_pick_t rfl rfl rfl ?_
                    refine WL_move rfl rfl ?_
                    refine WL_guard_skip rfl rfl (by simp) rfl ?_
                    refine WL_guard_skip rfl rfl (by simp) rfl ?_
                    refine WL_guard_skip rfl rfl (by simp) rfl ?_
                    refine WL_pick_t rfl rfl rfl ?_
                    refine WL_nil ?_
                    have hq10 := Option.some.inj hr16
                    subst hq10
                    have hC58 : Ctx [] w0 _ [Item.box b1 [u1, (.int .i64 a1.2.1), (.int .i64 a1.2.2)], Item.own v12 (x29.2.1 : (List Int)), Item.own v22 (x27.1 : (List Int)), Item.box b9 [(.int .i64 x18), (.int .i64 x19), (.int .i64 x20), (.bool x21)], Item.box b8 [v13, (.int .i64 x16), (.int .i64 x17)], Item.own v13 (x15 : (List Int)), Item.box b7 [v12, (.int .i64 x13.2.1), (.int .i64 x13.2.2)], Item.box b4 [(.int .i64 x6), (.int .i64 x7), (.int .i64 x8), (.bool x9)], Item.box b3 [v1, (.int .i64 x4), (.int .i64 x5)], Item.own v1 (x3 : (List Int)), Item.box b2 [(.int .i64 a2.1), (.int .i64 a2.2.1), (.int .i64 a2.2.2.1), (.bool a2.2.2.2)]] := hC56.front 10 rfl
                    have hC59 : Ctx [] w0 _ [Item.box b2 [(.int .i64 a2.1), (.int .i64 a2.2.1), (.int .i64 a2.2.2.1), (.bool a2.2.2.2)], Item.box b1 [u1, (.int .i64 a1.2.1), (.int .i64 a1.2.2)], Item.own v12 (x29.2.1 : (List Int)), Item.own v22 (x27.1 : (List Int)), Item.box b9 [(.int .i64 x18), (.int .i64 x19), (.int .i64 x20), (.bool x21)], Item.box b8 [v13, (.int .i64 x16), (.int .i64 x17)], Item.own v13 (x15 : (List Int)), Item.box b7 [v12, (.int .i64 x13.2.1), (.int .i64 x13.2.2)], Item.box b4 [(.int .i64 x6), (.int .i64 x7), (.int .i64 x8), (.bool x9)], Item.box b3 [v1, (.int .i64 x4), (.int .i64 x5)], Item.own v1 (x3 : (List Int))] := hC58.front 10 rfl
                    have hC60 : Ctx [] w0 _ [Item.own v1 (x3 : (List Int)), Item.box b2 [(.int .i64 a2.1), (.int .i64 a2.2.1), (.int .i64 a2.2.2.1), (.bool a2.2.2.2)], Item.box b1 [u1, (.int .i64 a1.2.1), (.int .i64 a1.2.2)], Item.own v12 (x29.2.1 : (List Int)), Item.own v22 (x27.1 : (List Int)), Item.box b9 [(.int .i64 x18), (.int .i64 x19), (.int .i64 x20), (.bool x21)], Item.box b8 [v13, (.int .i64 x16), (.int .i64 x17)], Item.own v13 (x15 : (List Int)), Item.box b7 [v12, (.int .i64 x13.2.1), (.int .i64 x13.2.2)], Item.box b4 [(.int .i64 x6), (.int .i64 x7), (.int .i64 x8), (.bool x9)], Item.box b3 [v1, (.int .i64 x4), (.int .i64 x5)]] := hC59.front 10 rfl
                    have hC61 : Ctx [] w0 _ [Item.box b3 [v1, (.int .i64 x4), (.int .i64 x5)], Item.own v1 (x3 : (List Int)), Item.box b2 [(.int .i64 a2.1), (.int .i64 a2.2.1), (.int .i64 a2.2.2.1), (.bool a2.2.2.2)], Item.box b1 [u1, (.int .i64 a1.2.1), (.int .i64 a1.2.2)], Item.own v12 (x29.2.1 : (List Int)), Item.own v22 (x27.1 : (List Int)), Item.box b9 [(.int .i64 x18), (.int .i64 x19), (.int .i64 x20), (.bool x21)], Item.box b8 [v13, (.int .i64 x16), (.int .i64 x17)], Item.own v13 (x15 : (List Int)), Item.box b7 [v12, (.int .i64 x13.2.1), (.int .i64 x13.2.2)], Item.box b4 [(.int .i64 x6), (.int .i64 x7), (.int .i64 x8), (.bool x9)]] := hC60.front 10 rfl
                    have hC62 : Ctx [] w0 _ [Item.box b4 [(.int .i64 x6), (.int .i64 x7), (.int .i64 x8), (.bool x9)], Item.box b3 [v1, (.int .i64 x4), (.int .i64 x5)], Item.own v1 (x3 : (List Int)), Item.box b2 [(.int .i64 a2.1), (.int .i64 a2.2.1), (.int .i64 a2.2.2.1), (.bool a2.2.2.2)], Item.box b1 [u1, (.int .i64 a1.2.1), (.int .i64 a1.2.2)], Item.own v12 (x29.2.1 : (List Int)), Item.own v22 (x27.1 : (List Int)), Item.box b9 [(.int .i64 x18), (.int .i64 x19), (.int .i64 x20), (.bool x21)], Item.box b8 [v13, (.int .i64 x16), (.int .i64 x17)], Item.own v13 (x15 : (List Int)), Item.box b7 [v12, (.int .i64 x13.2.1), (.int .i64 x13.2.2)]] := hC61.front 10 rfl
                    have hC63 : Ctx [] w0 _ [Item.own v13 (x15 : (List Int)), Item.box b4 [(.int .i64 x6), (.int .i64 x7), (.int .i64 x8), (.bool x9)], Item.box b3 [v1, (.int .i64 x4), (.int .i64 x5)], Item.own v1 (x3 : (List Int)), Item.box b2 [(.int .i64 a2.1), (.int .i64 a2.2.1), (.int .i64 a2.2.2.1), (.bool a2.2.2.2)], Item.box b1 [u1, (.int .i64 a1.2.1), (.int .i64 a1.2.2)], Item.own v12 (x29.2.1 : (List Int)), Item.own v22 (x27.1 : (List Int)), Item.box b9 [(.int .i64 x18), (.int .i64 x19), (.int .i64 x20), (.bool x21)], Item.box b8 [v13, (.int .i64 x16), (.int .i64 x17)], Item.box b7 [v12, (.int .i64 x13.2.1), (.int .i64 x13.2.2)]] := hC62.front 9 rfl
                    have hC64 : Ctx [] w0 _ [Item.box b8 [v13, (.int .i64 x16), (.int .i64 x17)], Item.own v13 (x15 : (List Int)), Item.box b4 [(.int .i64 x6), (.int .i64 x7), (.int .i64 x8), (.bool x9)], Item.box b3 [v1, (.int .i64 x4), (.int .i64 x5)], Item.own v1 (x3 : (List Int)), Item.box b2 [(.int .i64 a2.1), (.int .i64 a2.2.1), (.int .i64 a2.2.2.1), (.bool a2.2.2.2)], Item.box b1 [u1, (.int .i64 a1.2.1), (.int .i64 a1.2.2)], Item.own v12 (x29.2.1 : (List Int)), Item.own v22 (x27.1 : (List Int)), Item.box b9 [(.int .i64 x18), (.int .i64 x19), (.int .i64 x20), (.bool x21)], Item.box b7 [v12, (.int .i64 x13.2.1), (.int .i64 x13.2.2)]] := hC63.front 9 rfl
                    have hC65 : Ctx [] w0 _ [Item.box b8 [v13, (.int .i64 x16), (.int .i64 x17)], Item.own v13 (x15 : (List Int)), Item.box b4 [(.int .i64 x6), (.int .i64 x7), (.int .i64 x8), (.bool x9)], Item.box b3 [v1, (.int .i64 x4), (.int .i64 x5)], Item.own v1 (x3 : (List Int)), Item.box b2 [(.int .i64 a2.1), (.int .i64 a2.2.1), (.int .i64 a2.2.2.1), (.bool a2.2.2.2)], Item.box b1 [u1, (.int .i64 a1.2.1), (.int .i64 a1.2.2)]] := hC64.headN 7
                    refine nrm_sub (l' := [(2, (.int .i64 a3)), (3, (ptr b1 0)), (4, (ptr b2 0)), (8, (ptr b3 0)), (9, (ptr b4 0)), (10, (.bool x2)), (12, (ptr b8 0)), (88, (.bool true))]) ⟨rfl, rfl, rfl, rfl, rfl, rfl, rfl, rfl, trivial⟩ ?_
                    exact ⟨true, rfl, rfl, (Below.refl _ _), hC65⟩
                  · replace hr16 := ite_f hr16 hc6
                    refine WL_guard rfl rfl ?_
                    refine WL_load_box_agg [v13, (.int .i64 x16), (.int .i64 x17)] hC56 3 rfl rfl rfl Try.isAgg26 Try.sizeOf26 rfl rfl ?_
                    refine WL_guard rfl rfl ?_
                    refine WL_load_box_agg [v1, (.int .i64 x4), (.int .i64 x5)] hC56 7 rfl rfl rfl Try.isAgg26 Try.sizeOf26 rfl rfl ?_
                    obtain ⟨x31, hr17, hr16⟩ := bind_some hr16
                    refine WL_guard rfl rfl ?_
                    refine WL_call Try.call19 rfl rfl (c_Q_eqLedger (x15, x16, x17) v13 ((hC56.ro 4 rfl).now (Keep.refl _ _)) (x3, x4, x5) v1 ((hC56.ro 8 rfl).now (Keep.refl _ _)) x31 hr17) ?_
                    intro _ w38 hv20
                    obtain ⟨rfl, hB32⟩ := res_bool hv20
                    have hC66 := hC56.grow hB32
                    refine WL_guard rfl rfl ?_
                    refine WL_not rfl rfl ?_
                    refine WL_pick_f rfl rfl rfl ?_
                    refine WL_move rfl rfl ?_
                    refine WL_fork (fun hc7 => ?_) (fun hc7 => ?_)
                    · replace hr16 := ite_t hr16 hc7
                      refine WL_guard_skip rfl rfl (by simp) rfl ?_
                      refine WL_guard_skip rfl rfl (by simp) rfl ?_
                      refine WL_guard_skip rfl rfl (by simp) rfl ?_
                      refine WL_guard_skip rfl rfl (by simp) rfl ?_
                      refine WL_pick_t rfl rfl rfl ?_
                      refine WL_move rfl rfl ?_
                      refine WL_guard_skip rfl rfl (by simp) rfl ?_
                      refine WL_guard_skip rfl rfl (by simp) rfl ?_
                      refine WL_guard_skip rfl rfl (by simp) rfl ?_
                      refine WL_pick_t rfl rfl rfl ?_
                      refine WL_nil ?_
                      have hq11 := Option.some.inj hr16
                      subst hq11
                      have hC67 : Ctx [] w0 _ [Item.box b1 [u1, (.int .i64 a1.2.1), (.int .i64 a1.2.2)], Item.own v12 (x29.2.1 : (List Int)), Item.own v22 (x27.1 : (List Int)), Item.box b9 [(.int .i64 x18), (.int .i64 x19), (.int .i64 x20), (.bool x21)], Item.box b8 [v13, (.int .i64 x16), (.int .i64 x17)], Item.own v13 (x15 : (List Int)), Item.box b7 [v12, (.int .i64 x13.2.1), (.int .i64 x13.2.2)], Item.box b4 [(.int .i64 x6), (.int .i64 x7), (.int .i64 x8), (.bool x9)], Item.box b3 [v1, (.int .i64 x4), (.int .i64 x5)], Item.own v1 (x3 : (List Int)), Item.box b2 [(.int .i64 a2.1), (.int .i64 a2.2.1), (.int .i64 a2.2.2.1), (.bool a2.2.2.2)]] := hC66.front 10 rfl
                      have hC68 : Ctx [] w0 _ [Item.box b2 [(.int .i64 a2.1), (.int .i64 a2.2.1), (.int .i64 a2.2.2.1), (.bool a2.2.2.2)], Item.box b1 [u1, (.int .i64 a1.2.1), (.int .i64 a1.2.2)], Item.own v12 (x29.2.1 : (List Int)), Item.own v22 (x27.1 : (List Int)), Item.box b9 [(.int .i64 x18), (.int .i64 x19), (.int .i64 x20), (.bool x21)], Item.box b8 [v13, (.int .i64 x16), (.int .i64 x17)], Item.own v13 (x15 : (List Int)), Item.box b7 [v12, (.int .i64 x13.2.1), (.int .i64 x13.2.2)], Item.box b4 [(.int .i64 x6), (.int .i64 x7), (.int .i64 x8), (.bool x9)], Item.box b3 [v1, (.int .i64 x4), (.int .i64 x5)], Item.own v1 (x3 : (List Int))] := hC67.front 10 rfl
                      have hC69 : Ctx [] w0 _ [Item.own v1 (x3 : (List Int)), Item.box b2 [(.int .i64 a2.1), (.int .i64 a2.2.1), (.int .i64 a2.2.2.1), (.bool a2.2.2.2)], Item.box b1 [u1, (.int .i64 a1.2.1), (.int .i64 a1.2.2)], Item.own v12 (x29.2.1 : (List Int)), Item.own v22 (x27.1 : (List Int)), Item.box b9 [(.int .i64 x18), (.int .i64 x19), (.int .i64 x20), (.bool x21)], Item.box b8 [v13, (.int .i64 x16), (.int .i64 x17)], Item.own v13 (x15 : (List Int)), Item.box b7 [v12, (.int .i64 x13.2.1), (.int .i64 x13.2.2)], Item.box b4 [(.int .i64 x6), (.int .i64 x7), (.int .i64 x8), (.bool x9)], Item.box b3 [v1, (.int .i64 x4), (.int .i64 x5)]] := hC68.front 10 rfl
                      have hC70 : Ctx [] w0 _ [Item.box b3 [v1, (.int .i64 x4), (.int .i64 x5)], Item.own v1 (x3 : (List Int)), Item.box b2 [(.int .i64 a2.1), (.int .i64 a2.2.1), (.int .i64 a2.2.2.1), (.bool a2.2.2.2)], Item.box b1 [u1, (.int .i64 a1.2.1), (.int .i64 a1.2.2)], Item.own v12 (x29.2.1 : (List Int)), Item.own v22 (x27.1 : (List Int)), Item.box b9 [(.int .i64 x18), (.int .i64 x19), (.int .i64 x20), (.bool x21)], Item.box b8 [v13, (.int .i64 x16), (.int .i64 x17)], Item.own v13 (x15 : (List Int)), Item.box b7 [v12, (.int .i64 x13.2.1), (.int .i64 x13.2.2)], Item.box b4 [(.int .i64 x6), (.int .i64 x7), (.int .i64 x8), (.bool x9)]] := hC69.front 10 rfl
                      have hC71 : Ctx [] w0 _ [Item.box b4 [(.int .i64 x6), (.int .i64 x7), (.int .i64 x8), (.bool x9)], Item.box b3 [v1, (.int .i64 x4), (.int .i64 x5)], Item.own v1 (x3 : (List Int)), Item.box b2 [(.int .i64 a2.1), (.int .i64 a2.2.1), (.int .i64 a2.2.2.1), (.bool a2.2.2.2)], Item.box b1 [u1, (.int .i64 a1.2.1), (.int .i64 a1.2.2)], Item.own v12 (x29.2.1 : (List Int)), Item.own v22 (x27.1 : (List Int)), Item.box b9 [(.int .i64 x18), (.int .i64 x19), (.int .i64 x20), (.bool x21)], Item.box b8 [v13, (.int .i64 x16), (.int .i64 x17)], Item.own v13 (x15 : (List Int)), Item.box b7 [v12, (.int .i64 x13.2.1), (.int .i64 x13.2.2)]] := hC70.front 10 rfl
                      have hC72 : Ctx [] w0 _ [Item.own v13 (x15 : (List Int)), Item.box b4 [(.int .i64 x6), (.int .i64 x7), (.int .i64 x8), (.bool x9)], Item.box b3 [v1, (.int .i64 x4), (.int .i64 x5)], Item.own v1 (x3 : (List Int)), Item.box b2 [(.int .i64 a2.1), (.int .i64 a2.2.1), (.int .i64 a2.2.2.1), (.bool a2.2.2.2)], Item.box b1 [u1, (.int .i64 a1.2.1), (.int .i64 a1.2.2)], Item.own v12 (x29.2.1 : (List Int)), Item.own v22 (x27.1 : (List Int)), Item.box b9 [(.int .i64 x18), (.int .i64 x19), (.int .i64 x20), (.bool x21)], Item.box b8 [v13, (.int .i64 x16), (.int .i64 x17)], Item.box b7 [v12, (.int .i64 x13.2.1), (.int .i64 x13.2.2)]] := hC71.front 9 rfl
                      have hC73 : Ctx [] w0 _ [Item.box b8 [v13, (.int .i64 x16), (.int .i64 x17)], Item.own v13 (x15 : (List Int)), Item.box b4 [(.int .i64 x6), (.int .i64 x7), (.int .i64 x8), (.bool x9)], Item.box b3 [v1, (.int .i64 x4), (.int .i64 x5)], Item.own v1 (x3 : (List Int)), Item.box b2 [(.int .i64 a2.1), (.int .i64 a2.2.1), (.int .i64 a2.2.2.1), (.bool a2.2.2.2)], Item.box b1 [u1, (.int .i64 a1.2.1), (.int .i64 a1.2.2)], Item.own v12 (x29.2.1 : (List Int)), Item.own v22 (x27.1 : (List Int)), Item.box b9 [(.int .i64 x18), (.int .i64 x19), (.int .i64 x20), (.bool x21)], Item.box b7 [v12, (.int .i64 x13.2.1), (.int .i64 x13.2.2)]] := hC72.front 9 rfl
                      have hC74 : Ctx [] w0 _ [Item.box b8 [v13, (.int .i64 x16), (.int .i64 x17)], Item.own v13 (x15 : (List Int)), Item.box b4 [(.int .i64 x6), (.int .i64 x7), (.int .i64 x8), (.bool x9)], Item.box b3 [v1, (.int .i64 x4), (.int .i64 x5)], Item.own v1 (x3 : (List Int)), Item.box b2 [(.int .i64 a2.1), (.int .i64 a2.2.1), (.int .i64 a2.2.2.1), (.bool a2.2.2.2)], Item.box b1 [u1, (.int .i64 a1.2.1), (.int .i64 a1.2.2)]] := hC73.headN 7
                      refine nrm_sub (l' := [(2, (.int .i64 a3)), (3, (ptr b1 0)), (4, (ptr b2 0)), (8, (ptr b3 0)), (9, (ptr b4 0)), (10, (.bool x2)), (12, (ptr b8 0)), (88, (.bool true))]) ⟨rfl, rfl, rfl, rfl, rfl, rfl, rfl, rfl, trivial⟩ ?_
                      exact ⟨true, rfl, rfl, (Keep.of hB32).below, hC74⟩
                    · replace hr16 := ite_f hr16 hc7
                      refine WL_guard rfl rfl ?_
                      refine WL_load_box_agg [(.int .i64 x18), (.int .i64 x19), (.int .i64 x20), (.bool x21)] hC66 2 rfl rfl rfl Try.isAgg35 Try.sizeOf35 rfl rfl ?_
                      refine WL_guard rfl rfl ?_
                      refine WL_load_box_agg [(.int .i64 x6), (.int .i64 x7), (.int .i64 x8), (.bool x9)] hC66 6 rfl rfl rfl Try.isAgg35 Try.sizeOf35 rfl rfl ?_
                      obtain ⟨x32, hr18, hr16⟩ := bind_some hr16
                      refine WL_guard rfl rfl ?_
                      refine WL_call Try.call25 rfl rfl (c_Q_eqCall (x18, x19, x20, x21) (x6, x7, x8, x9) x32 hr18) ?_
                      intro _ w39 hv21
                      obtain ⟨rfl, hB33⟩ := res_bool hv21
                      have hC75 := hC66.grow hB33
                      refine WL_guard rfl rfl ?_
                      refine WL_not rfl rfl ?_
                      refine WL_pick_f rfl rfl rfl ?_
                      refine WL_move rfl rfl ?_
                      refine WL_fork (fun hc8 => ?_) (fun hc8 => ?_)
                      · replace hr16 := ite_t hr16 hc8
                        refine WL_guard_skip rfl rfl (by simp) rfl ?_
                        refine WL_guard_skip rfl rfl (by simp) rfl ?_
                        refine WL_guard_skip rfl rfl (by simp) rfl ?_
                        refine WL_pick_t rfl rfl rfl ?_
                        refine WL_nil ?_
                        have hq12 := Option.some.inj hr16
                        subst hq12
                        have hC76 : Ctx [] w0 _ [Item.box b1 [u1, (.int .i64 a1.2.1), (.int .i64 a1.2.2)], Item.own v12 (x29.2.1 : (List Int)), Item.own v22 (x27.1 : (List Int)), Item.box b9 [(.int .i64 x18), (.int .i64 x19), (.int .i64 x20), (.bool x21)], Item.box b8 [v13, (.int .i64 x16), (.int .i64 x17)], Item.own v13 (x15 : (List Int)), Item.box b7 [v12, (.int .i64 x13.2.1), (.int .i64 x13.2.2)], Item.box b4 [(.int .i64 x6), (.int .i64 x7), (.int .i64 x8), (.bool x9)], Item.box b3 [v1, (.int .i64 x4), (.int .i64 x5)], Item.own v1 (x3 : (List Int)), Item.box b2 [(.int .i64 a2.1), (.int .i64 a2.2.1), (.int .i64 a2.2.2.1), (.bool a2.2.2.2)]] := hC75.front 10 rfl
                        have hC77 : Ctx [] w0 _ [Item.box b2 [(.int .i64 a2.1), (.int .i64 a2.2.1), (.int .i64 a2.2.2.1), (.bool a2.2.2.2)], Item.box b1 [u1, (.int .i64 a1.2.1), (.int .i64 a1.2.2)], Item.own v12 (x29.2.1 : (List Int)), Item.own v22 (x27.1 : (List Int)), Item.box b9 [(.int .i64 x18), (.int .i64 x19), (.int .i64 x20), (.bool x21)], Item.box b8 [v13, (.int .i64 x16), (.int .i64 x17)], Item.own v13 (x15 : (List Int)), Item.box b7 [v12, (.int .i64 x13.2.1), (.int .i64 x13.2.2)], Item.box b4 [(.int .i64 x6), (.int .i64 x7), (.int .i64 x8), (.bool x9)], Item.box b3 [v1, (.int .i64 x4), (.int .i64 x5)], Item.own v1 (x3 : (List Int))] := hC76.front 10 rfl
                        have hC78 : Ctx [] w0 _ [Item.own v1 (x3 : (List Int)), Item.box b2 [(.int .i64 a2.1), (.int .i64 a2.2.1), (.int .i64 a2.2.2.1), (.bool a2.2.2.2)], Item.box b1 [u1, (.int .i64 a1.2.1), (.int .i64 a1.2.2)], Item.own v12 (x29.2.1 : (List Int)), Item.own v22 (x27.1 : (List Int)), Item.box b9 [(.int .i64 x18), (.int .i64 x19), (.int .i64 x20), (.bool x21)], Item.box b8 [v13, (.int .i64 x16), (.int .i64 x17)], Item.own v13 (x15 : (List Int)), Item.box b7 [v12, (.int .i64 x13.2.1), (.int .i64 x13.2.2)], Item.box b4 [(.int .i64 x6), (.int .i64 x7), (.int .i64 x8), (.bool x9)], Item.box b3 [v1, (.int .i64 x4), (.int .i64 x5)]] := hC77.front 10 rfl
                        have hC79 : Ctx [] w0 _ [Item.box b3 [v1, (.int .i64 x4), (.int .i64 x5)], Item.own v1 (x3 : (List Int)), Item.box b2 [(.int .i64 a2.1), (.int .i64 a2.2.1), (.int .i64 a2.2.2.1), (.bool a2.2.2.2)], Item.box b1 [u1, (.int .i64 a1.2.1), (.int .i64 a1.2.2)], Item.own v12 (x29.2.1 : (List Int)), Item.own v22 (x27.1 : (List Int)), Item.box b9 [(.int .i64 x18), (.int .i64 x19), (.int .i64 x20), (.bool x21)], Item.box b8 [v13, (.int .i64 x16), (.int .i64 x17)], Item.own v13 (x15 : (List Int)), Item.box b7 [v12, (.int .i64 x13.2.1), (.int .i64 x13.2.2)], Item.box b4 [(.int .i64 x6), (.int .i64 x7), (.int .i64 x8), (.bool x9)]] := hC78.front 10 rfl
                        have hC80 : Ctx [] w0 _ [Item.box b4 [(.int .i64 x6), (.int .i64 x7), (.int .i64 x8), (.bool x9)], Item.box b3 [v1, (.int .i64 x4), (.int .i64 x5)], Item.own v1 (x3 : (List Int)), Item.box b2 [(.int .i64 a2.1), (.int .i64 a2.2.1), (.int .i64 a2.2.2.1), (.bool a2.2.2.2)], Item.box b1 [u1, (.int .i64 a1.2.1), (.int .i64 a1.2.2)], Item.own v12 (x29.2.1 : (List Int)), Item.own v22 (x27.1 : (List Int)), Item.box b9 [(.int .i64 x18), (.int .i64 x19), (.int .i64 x20), (.bool x21)], Item.box b8 [v13, (.int .i64 x16), (.int .i64 x17)], Item.own v13 (x15 : (List Int)), Item.box b7 [v12, (.int .i64 x13.2.1), (.int .i64 x13.2.2)]] := hC79.front 10 rfl
                        have hC81 : Ctx [] w0 _ [Item.own v13 (x15 : (List Int)), Item.box b4 [(.int .i64 x6), (.int .i64 x7), (.int .i64 x8), (.bool x9)], Item.box b3 [v1, (.int .i64 x4), (.int .i64 x5)], Item.own v1 (x3 : (List Int)), Item.box b2 [(.int .i64 a2.1), (.int .i64 a2.2.1), (.int .i64 a2.2.2.1), (.bool a2.2.2.2)], Item.box b1 [u1, (.int .i64 a1.2.1), (.int .i64 a1.2.2)], Item.own v12 (x29.2.1 : (List Int)), Item.own v22 (x27.1 : (List Int)), Item.box b9 [(.int .i64 x18), (.int .i64 x19), (.int .i64 x20), (.bool x21)], Item.box b8 [v13, (.int .i64 x16), (.int .i64 x17)], Item.box b7 [v12, (.int .i64 x13.2.1), (.int .i64 x13.2.2)]] := hC80.front 9 rfl
                        have hC82 : Ctx [] w0 _ [Item.box b8 [v13, (.int .i64 x16), (.int .i64 x17)], Item.own v13 (x15 : (List Int)), Item.box b4 [(.int .i64 x6), (.int .i64 x7), (.int .i64 x8), (.bool x9)], Item.box b3 [v1, (.int .i64 x4), (.int .i64 x5)], Item.own v1 (x3 : (List Int)), Item.box b2 [(.int .i64 a2.1), (.int .i64 a2.2.1), (.int .i64 a2.2.2.1), (.bool a2.2.2.2)], Item.box b1 [u1, (.int .i64 a1.2.1), (.int .i64 a1.2.2)], Item.own v12 (x29.2.1 : (List Int)), Item.own v22 (x27.1 : (List Int)), Item.box b9 [(.int .i64 x18), (.int .i64 x19), (.int .i64 x20), (.bool x21)], Item.box b7 [v12, (.int .i64 x13.2.1), (.int .i64 x13.2.2)]] := hC81.front 9 rfl
                        have hC83 : Ctx [] w0 _ [Item.box b8 [v13, (.int .i64 x16), (.int .i64 x17)], Item.own v13 (x15 : (List Int)), Item.box b4 [(.int .i64 x6), (.int .i64 x7), (.int .i64 x8), (.bool x9)], Item.box b3 [v1, (.int .i64 x4), (.int .i64 x5)], Item.own v1 (x3 : (List Int)), Item.box b2 [(.int .i64 a2.1), (.int .i64 a2.2.1), (.int .i64 a2.2.2.1), (.bool a2.2.2.2)], Item.box b1 [u1, (.int .i64 a1.2.1), (.int .i64 a1.2.2)]] := hC82.headN 7
                        refine nrm_sub (l' := [(2, (.int .i64 a3)), (3, (ptr b1 0)), (4, (ptr b2 0)), (8, (ptr b3 0)), (9, (ptr b4 0)), (10, (.bool x2)), (12, (ptr b8 0)), (88, (.bool true))]) ⟨rfl, rfl, rfl, rfl, rfl, rfl, rfl, rfl, trivial⟩ ?_
                        exact ⟨true, rfl, rfl, ((Keep.of hB32).then hB33).below, hC83⟩
                      · replace hr16 := ite_f hr16 hc8
                        refine WL_guard rfl rfl ?_
                        refine WL_move rfl rfl ?_
                        refine WL_guard rfl rfl ?_
                        refine WL_move rfl rfl ?_
                        refine WL_guard rfl rfl ?_
                        refine WL_bool_neq Try.underlying4 rfl rfl rfl ?_
                        refine WL_pick_f rfl rfl rfl ?_
                        refine WL_nil ?_
                        have hq13 := Option.some.inj hr16
                        subst hq13
                        have hC84 : Ctx [] w0 _ [Item.box b1 [u1, (.int .i64 a1.2.1), (.int .i64 a1.2.2)], Item.own v12 (x29.2.1 : (List Int)), Item.own v22 (x27.1 : (List Int)), Item.box b9 [(.int .i64 x18), (.int .i64 x19), (.int .i64 x20), (.bool x21)], Item.box b8 [v13, (.int .i64 x16), (.int .i64 x17)], Item.own v13 (x15 : (List Int)), Item.box b7 [v12, (.int .i64 x13.2.1), (.int .i64 x13.2.2)], Item.box b4 [(.int .i64 x6), (.int .i64 x7), (.int .i64 x8), (.bool x9)], Item.box b3 [v1, (.int .i64 x4), (.int .i64 x5)], Item.own v1 (x3 : (List Int)), Item.box b2 [(.int .i64 a2.1), (.int .i64 a2.2.1), (.int .i64 a2.2.2.1), (.bool a2.2.2.2)]] := hC75.front 10 rfl
                        have hC85 : Ctx [] w0 _ [Item.box b2 [(.int .i64 a2.1), (.int .i64 a2.2.1), (.int .i64 a2.2.2.1), (.bool a2.2.2.2)], Item.box b1 [u1, (.int .i64 a1.2.1), (.int .i64 a1.2.2)], Item.own v12 (x29.2.1 : (List Int)), Item.own v22 (x27.1 : (List Int)), Item.box b9 [(.int .i64 x18), (.int .i64 x19), (.int .i64 x20), (.bool x21)], Item.box b8 [v13, (.int .i64 x16), (.int .i64 x17)], Item.own v13 (x15 : (List Int)), Item.box b7 [v12, (.int .i64 x13.2.1), (.int .i64 x13.2.2)], Item.box b4 [(.int .i64 x6), (.int .i64 x7), (.int .i64 x8), (.bool x9)], Item.box b3 [v1, (.int .i64 x4), (.int .i64 x5)], Item.own v1 (x3 : (List Int))] := hC84.front 10 rfl
                        have hC86 : Ctx [] w0 _ [Item.own v1 (x3 : (List Int)), Item.box b2 [(.int .i64 a2.1), (.int .i64 a2.2.1), (.int .i64 a2.2.2.1), (.bool a2.2.2.2)], Item.box b1 [u1, (.int .i64 a1.2.1), (.int .i64 a1.2.2)], Item.own v12 (x29.2.1 : (List Int)), Item.own v22 (x27.1 : (List Int)), Item.box b9 [(.int .i64 x18), (.int .i64 x19), (.int .i64 x20), (.bool x21)], Item.box b8 [v13, (.int .i64 x16), (.int .i64 x17)], Item.own v13 (x15 : (List Int)), Item.box b7 [v12, (.int .i64 x13.2.1), (.int .i64 x13.2.2)], Item.box b4 [(.int .i64 x6), (.int .i64 x7), (.int .i64 x8), (.bool x9)], Item.box b3 [v1, (.int .i64 x4), (.int .i64 x5)]] := hC85.front 10 rfl
                        have hC87 : Ctx [] w0 _ [Item.box b3 [v1, (.int .i64 x4), (.int .i64 x5)], Item.own v1 (x3 : (List Int)), Item.box b2 [(.int .i64 a2.1), (.int .i64 a2.2.1), (.int .i64 a2.2.2.1), (.bool a2.2.2.2)], Item.box b1 [u1, (.int .i64 a1.2.1), (.int .i64 a1.2.2)], Item.own v12 (x29.2.1 : (List Int)), Item.own v22 (x27.1 : (List Int)), Item.box b9 [(.int .i64 x18), (.int .i64 x19), (.int .i64 x20), (.bool x21)], Item.box b8 [v13, (.int .i64 x16), (.int .i64 x17)], Item.own v13 (x15 : (List Int)), Item.box b7 [v12, (.int .i64 x13.2.1), (.int .i64 x13.2.2)], Item.box b4 [(.int .i64 x6), (.int .i64 x7), (.int .i64 x8), (.bool x9)]] := hC86.front 10 rfl
                        have hC88 : Ctx [] w0 _ [Item.box b4 [(.int .i64 x6), (.int .i64 x7), (.int .i64 x8), (.bool x9)], Item.box b3 [v1, (.int .i64 x4), (.int .i64 x5)], Item.own v1 (x3 : (List Int)), Item.box b2 [(.int .i64 a2.1), (.int .i64 a2.2.1), (.int .i64 a2.2.2.1), (.bool a2.2.2.2)], Item.box b1 [u1, (.int .i64 a1.2.1), (.int .i64 a1.2.2)], Item.own v12 (x29.2.1 : (List Int)), Item.own v22 (x27.1 : (List Int)), Item.box b9 [(.int .i64 x18), (.int .i64 x19), (.int .i64 x20), (.bool x21)], Item.box b8 [v13, (.int .i64 x16), (.int .i64 x17)], Item.own v13 (x15 : (List Int)), Item.box b7 [v12, (.int .i64 x13.2.1), (.int .i64 x13.2.2)]] := hC87.front 10 rfl
                        have hC89 : Ctx [] w0 _ [Item.own v13 (x15 : (List Int)), Item.box b4 [(.int .i64 x6), (.int .i64 x7), (.int .i64 x8), (.bool x9)], Item.box b3 [v1, (.int .i64 x4), (.int .i64 x5)], Item.own v1 (x3 : (List Int)), Item.box b2 [(.int .i64 a2.1), (.int .i64 a2.2.1), (.int .i64 a2.2.2.1), (.bool a2.2.2.2)], Item.box b1 [u1, (.int .i64 a1.2.1), (.int .i64 a1.2.2)], Item.own v12 (x29.2.1 : (List Int)), Item.own v22 (x27.1 : (List Int)), Item.box b9 [(.int .i64 x18), (.int .i64 x19), (.int .i64 x20), (.bool x21)], Item.box b8 [v13, (.int .i64 x16), (.int .i64 x17)], Item.box b7 [v12, (.int .i64 x13.2.1), (.int .i64 x13.2.2)]] := hC88.front 9 rfl
                        have hC90 : Ctx [] w0 _ [Item.box b8 [v13, (.int .i64 x16), (.int .i64 x17)], Item.own v13 (x15 : (List Int)), Item.box b4 [(.int .i64 x6), (.int .i64 x7), (.int .i64 x8), (.bool x9)], Item.box b3 [v1, (.int .i64 x4), (.int .i64 x5)], Item.own v1 (x3 : (List Int)), Item.box b2 [(.int .i64 a2.1), (.int .i64 a2.2.1), (.int .i64 a2.2.2.1), (.bool a2.2.2.2)], Item.box b1 [u1, (.int .i64 a1.2.1), (.int .i64 a1.2.2)], Item.own v12 (x29.2.1 : (List Int)), Item.own v22 (x27.1 : (List Int)), Item.box b9 [(.int .i64 x18), (.int .i64 x19), (.int .i64 x20), (.bool x21)], Item.box b7 [v12, (.int .i64 x13.2.1), (.int .i64 x13.2.2)]] := hC89.front 9 rfl
                        have hC91 : Ctx [] w0 _ [Item.box b8 [v13, (.int .i64 x16), (.int .i64 x17)], Item.own v13 (x15 : (List Int)), Item.box b4 [(.int .i64 x6), (.int .i64 x7), (.int .i64 x8), (.bool x9)], Item.box b3 [v1, (.int .i64 x4), (.int .i64 x5)], Item.own v1 (x3 : (List Int)), Item.box b2 [(.int .i64 a2.1), (.int .i64 a2.2.1), (.int .i64 a2.2.2.1), (.bool a2.2.2.2)], Item.box b1 [u1, (.int .i64 a1.2.1), (.int .i64 a1.2.2)]] := hC90.headN 7
                        refine nrm_sub (l' := [(2, (.int .i64 a3)), (3, (ptr b1 0)), (4, (ptr b2 0)), (8, (ptr b3 0)), (9, (ptr b4 0)), (10, (.bool x2)), (12, (ptr b8 0)), (88, (.bool (!decide (x14 = x2))))]) ⟨rfl, rfl, rfl, rfl, rfl, rfl, rfl, rfl, trivial⟩ ?_
                        exact ⟨(!decide (x14 = x2)), rfl, rfl, ((Keep.of hB32).then hB33).below, hC91⟩
                · rintro _ w37 ⟨x30, rfl, rfl, hB31, hC57⟩
                  try dsimp only at hF
                  refine W_cond rfl (fun hc9 => ?_) (fun hc9 => ?_)
                  · replace hF := ite_t hF hc9
                    refine W_seq_reg ?_
                    refine WL_assign rfl rfl ?_
                    refine WL_nil ?_
                    refine W_ret ?_
                    refine nrm_ret ?_
                    have hq14 := Option.some.inj hF
                    subst hq14
                    refine fn_ret1 rfl rfl ?_
                    exact ⟨_, rfl, bool_res hC57 _⟩
                  · replace hF := ite_f hF hc9
                    refine W_skip ?_
                    refine nrm_normal ?_
                    refine W_seq_reg ?_
                    refine WL_assign rfl rfl ?_
                    refine WL_nil ?_
                    refine W_seq_reg ?_
                    refine WL_load_box_agg [v13, (.int .i64 x16), (.int .i64 x17)] hC57 0 rfl rfl rfl Try.isAgg26 Try.sizeOf26 rfl rfl ?_
                    refine WL_move rfl rfl ?_
                    obtain ⟨x33, hr19, hF⟩ := bind_some hF
                    have hC92 : Ctx [] w0 _ [Item.own v13 (x15 : (List Int)), Item.box b8 [v13, (.int .i64 x16), (.int .i64 x17)], Item.box b4 [(.int .i64 x6), (.int .i64 x7), (.int .i64 x8), (.bool x9)], Item.box b3 [v1, (.int .i64 x4), (.int .i64 x5)], Item.own v1 (x3 : (List Int)), Item.box b2 [(.int .i64 a2.1), (.int .i64 a2.2.1), (.int .i64 a2.2.2.1), (.bool a2.2.2.2)], Item.box b1 [u1, (.int .i64 a1.2.1), (.int .i64 a1.2.2)]] := hC57.front 1 rfl
                    obtain ⟨Fs2, hH2, hn12, hF2, hO2, hb12⟩ := Ctx.lend2 (As := [Item.box b8 [v13, (.int .i64 x16), (.int .i64 x17)], Item.box b4 [(.int .i64 x6), (.int .i64 x7), (.int .i64 x8), (.bool x9)], Item.box b3 [v1, (.int .i64 x4), (.int .i64 x5)], Item.own v1 (x3 : (List Int)), Item.box b2 [(.int .i64 a2.1), (.int .i64 a2.2.1), (.int .i64 a2.2.2.1), (.bool a2.2.2.2)], Item.box b1 [u1, (.int .i64 a1.2.1), (.int .i64 a1.2.2)]]) [Item.own v13 (x15 : (List Int))] hC92
                    refine WL_call Try.call20 rfl rfl (c_Q_markLedger (x15, x16, x17) v13 1 hH2 hn12 x33 hr19) ?_
                    rintro _ w40 ⟨rfl, hq15⟩
                    have hC93 : Ctx [] w0 w40 [Item.own v13 (x33.2.1 : (List Int)), Item.box b8 [v13, (.int .i64 x16), (.int .i64 x17)], Item.box b4 [(.int .i64 x6), (.int .i64 x7), (.int .i64 x8), (.bool x9)], Item.box b3 [v1, (.int .i64 x4), (.int .i64 x5)], Item.own v1 (x3 : (List Int)), Item.box b2 [(.int .i64 a2.1), (.int .i64 a2.2.1), (.int .i64 a2.2.2.1), (.bool a2.2.2.2)], Item.box b1 [u1, (.int .i64 a1.2.1), (.int .i64 a1.2.2)]] := hb12 _ _ hq15
                    refine WL_assign rfl rfl ?_
                    refine WL_nil ?_
                    refine W_seq_reg ?_
                    refine WL_assign rfl rfl ?_
                    refine WL_nil ?_
                    refine W_seq_reg ?_
                    refine WL_load_box_agg [v13, (.int .i64 x16), (.int .i64 x17)] hC93 1 rfl rfl rfl Try.isAgg26 Try.sizeOf26 rfl rfl ?_
                    refine WL_move rfl rfl ?_
                    obtain ⟨x34, hr20, hF⟩ := bind_some hF
                    refine WL_call Try.call21 rfl rfl (c_Q_heldLedger (x33.2.1, x16, x17) v13 ((hC93.ro 0 rfl).now (Keep.refl _ _)) 1 x34 hr20) ?_
                    intro _ w41 hv22
                    obtain ⟨rfl, hB34⟩ := res_int hv22
                    have hC94 := hC93.grow hB34
                    refine WL_assign rfl rfl ?_
                    refine WL_nil ?_
                    refine W_seq ?_
                    refine W_seq_reg ?_
                    refine WL_move rfl rfl ?_
                    refine WL_lss rfl rfl rfl ?_
                    refine WL_nil ?_
                    refine W_cond rfl (fun hc10 => ?_) (fun hc10 => ?_)
                    · replace hF := ite_t hF hc10
                      refine W_seq_reg ?_
                      refine WL_assign rfl rfl ?_
                      refine WL_nil ?_
                      refine W_ret ?_
                      refine nrm_ret ?_
                      have hq16 := Option.some.inj hF
                      subst hq16
                      refine fn_ret1 rfl rfl ?_
                      exact ⟨_, rfl, bool_res hC94 _⟩
                    · replace hF := ite_f hF hc10
                      refine W_skip ?_
                      refine nrm_normal ?_
                      refine W_seq ?_
                      refine W_seq_reg ?_
                      refine WL_move rfl rfl ?_
                      refine WL_move rfl rfl ?_
                      refine WL_neq rfl rfl rfl ?_
                      refine WL_nil ?_
                      refine W_cond rfl (fun hc11 => ?_) (fun hc11 => ?_)
                      · replace hF := ite_t hF hc11
                        refine W_seq_reg ?_
                        refine WL_assign rfl rfl ?_
                        refine WL_nil ?_
                        refine W_ret ?_
                        refine nrm_ret ?_
                        have hq17 := Option.some.inj hF
                        subst hq17
                        refine fn_ret1 rfl rfl ?_
                        exact ⟨_, rfl, bool_res hC94 _⟩
                      · replace hF := ite_f hF hc11
                        refine W_skip ?_
                        refine nrm_normal ?_
                        obtain ⟨r5, hr21, hF⟩ := bind_some hF
                        refine W_cut (fun l w => ∃ x35 : Bool, ∃ b12 : Nat, ∃ v23 : Value, ∃ x36 : (List Int), ∃ x37 : Int, ∃ x38 : Int, ∃ b13 : Nat, ∃ x39 : Int, ∃ x40 : Int, ∃ x41 : Int, ∃ x42 : Bool, (x35, x36, x37, x38, x39, x40, x41, x42) = r5 ∧ l = [(8, (ptr b3 0)), (9, (ptr b4 0)), (10, (.bool x2)), (12, (ptr b8 0)), (16, (.int .i64 x33.1)), (18, (ptr b12 0)), (19, (ptr b13 0)), (20, (.bool x35))] ∧ Ctx [] w0 w [Item.box b13 [(.int .i64 x39), (.int .i64 x40), (.int .i64 x41), (.bool x42)], Item.box b12 [v23, (.int .i64 x37), (.int .i64 x38)], Item.own v23 (x36 : (List Int)), Item.own v13 (x33.2.1 : (List Int)), Item.box b8 [v13, (.int .i64 x16), (.int .i64 x17)], Item.box b4 [(.int .i64 x6), (.int .i64 x7), (.int .i64 x8), (.bool x9)], Item.box b3 [v1, (.int .i64 x4), (.int .i64 x5)], Item.own v1 (x3 : (List Int))]) ?_ ?_
                        · refine W_drawn 15 rfl hmix (fun w43 hB36 => ?_)
                          have hC96 := hC94.grow hB36
                          refine WA_take 4 rfl (by kernel_rfl) (by kernel_rfl) (by kernel_rfl) rfl (fl_move rfl) ?_
                          refine WL_move rfl rfl ?_
                          refine WL_nil ?_
                          obtain ⟨x43, hr22, hr21⟩ := bind_some hr21
                          obtain ⟨x44, hr23, hr21⟩ := bind_some hr21
                          obtain ⟨x45, hr24, hr21⟩ := bind_some hr21
                          refine WA.sub (l' := [(2, (.int .i64 a3)), (3, (ptr b1 0)), (4, (ptr b2 0)), (8, (ptr b3 0)), (9, (ptr b4 0)), (10, (.bool x2)), (12, (ptr b8 0)), (16, (.int .i64 x33.1)), (17, (.int .i64 x34)), (88, (.bool x30)), (89, (.agg #[v13, (.int .i64 x16), (.int .i64 x17)])), (90, (.int .i64 1)), (91, (.int .i64 x33.1)), (92, (.agg #[v13, (.int .i64 x16), (.int .i64 x17)])), (93, (.int .i64 1)), (94, (.int .i64 x34)), (95, (.int .i64 x34)), (96, (.bool (decide (x34 < 0)))), (97, (.int .i64 x34)), (98, (.int .i64 x33.1)), (99, (.bool (!decide (x34 = x33.1)))), (105, (.int .i64 a3))]) ?_ ⟨rfl, rfl, rfl, rfl, rfl, rfl, rfl, rfl, rfl, rfl, rfl, rfl, rfl, rfl, rfl, rfl, rfl, rfl, rfl, rfl, rfl, rfl, trivial⟩
                          refine WA_postsO [⟨0, [], fun vs => PW.val (.agg #[u1, (.int .i64 a1.2.1), (.int .i64 a1.2.2)]), []⟩, ⟨1, [], fun vs => PW.own x43, []⟩, ⟨2, [], fun vs => PW.val (.agg #[(.int .i64 a2.1), (.int .i64 a2.2.1), (.int .i64 a2.2.2.1), (.bool a2.2.2.2)]), []⟩, ⟨3, [], fun vs => PW.val (.agg #[(.int .i64 x44.1), (.int .i64 x44.2.1), (.int .i64 x44.2.2.1), (.bool x44.2.2.2)]), []⟩, ⟨5, [], fun vs => PW.own3 (x45.1 : ((List Int) × Int × Int)) (x45.2.1 : (Int × Int × Int × Bool)) (x45.2.2 : Bool), []⟩, ⟨6, [106], fun vs => PW.val (vs.getD 0 undef), []⟩, ⟨7, [100], fun vs => PW.comp (vs.getD 0 undef) 0, []⟩, ⟨8, [100], fun vs => PW.comp (vs.getD 0 undef) 1, []⟩, ⟨9, [100], fun vs => PW.comp (vs.getD 0 undef) 2, []⟩, ⟨10, [], fun vs => PW.box [(.slice none 0 0), (.int .i64 0), (.int .i64 0)], []⟩, ⟨11, [], fun vs => PW.box [(.int .i64 0), (.int .i64 0), (.int .i64 0), (.bool false)], []⟩] [[], [0], [], [2], [1, 3], [5], [5, 6], [5, 6], [5, 6], [], []] [8, 9] 3 rfl (by kernel_rfl) (by kernel_rfl) ?_ ⟨?_, ?_, ?_, ?_, trivial⟩
                          · refine StepsE_cons rfl ?_ ?_
                            · intro w49 hB42
                              refine DepsE_nil ?_
                              refine ⟨_, rfl, ?_⟩
                              refine WL_load_box_agg [u1, (.int .i64 a1.2.1), (.int .i64 a1.2.2)] (hC96.grow hB42) 6 rfl rfl rfl Try.isAgg24 Try.sizeOf24 rfl rfl ?_
                              refine WL_nil ?_
                              exact FinE_val (Below.refl _ _) rfl rfl ⟨rfl, rfl⟩
                            refine StepsE_cons rfl ?_ ?_
                            · intro w49 hB42
                              refine DepsE_cons rfl rfl rfl ?_
                              rintro _ _ ⟨rfl, rfl⟩ _
                              refine DepsE_nil ?_
                              refine ⟨_, rfl, ?_⟩
                              refine WL_call Try.call17 rfl rfl (c_Q_toLedger (a1.1, a1.2.1, a1.2.2) u1 (g1.now (hC96.keep.then hB42)) x43 hr22) ?_
                              rintro v24 w44 ⟨hB37, F16, hv23, hn13, hb13⟩
                              refine WL_nil ?_
                              exact FinE_own hB37 rfl rfl hv23 hn13 hb13 (Val.inh hv23)
                            refine StepsE_cons rfl ?_ ?_
                            · intro w49 hB42
                              refine DepsE_nil ?_
                              refine ⟨_, rfl, ?_⟩
                              refine WL_load_box_agg [(.int .i64 a2.1), (.int .i64 a2.2.1), (.int .i64 a2.2.2.1), (.bool a2.2.2.2)] (hC96.grow hB42) 5 rfl rfl rfl Try.isAgg34 Try.sizeOf34 rfl rfl ?_
                              refine WL_nil ?_
                              exact FinE_val (Below.refl _ _) rfl rfl ⟨rfl, rfl⟩
                            refine StepsE_cons rfl ?_ ?_
                            · intro w49 hB42
                              refine DepsE_cons rfl rfl rfl ?_
                              rintro _ _ ⟨rfl, rfl⟩ _
                              refine DepsE_nil ?_
                              refine ⟨_, rfl, ?_⟩
                              refine WL_call Try.call23 rfl rfl (c_Q_toCall (a2.1, a2.2.1, a2.2.2.1, a2.2.2.2) x44 hr23) ?_
                              rintro v26 w45 ⟨hB38, F17, hv24, hn14, hb14⟩
                              obtain rfl := ro_st35 (D := []) ⟨F17, Val.weak hv24, by simp⟩
                              refine WL_nil ?_
                              exact FinE_val hB38 rfl rfl ⟨rfl, rfl⟩
                            refine StepsE_cons rfl ?_ ?_
                            · intro w49 hB42
                              refine DepsE_cons rfl rfl rfl ?_
                              intro v24 F16 hv23 _
                              obtain ⟨v25, rfl, h5⟩ := ro_st26 (ro_of_own hv23)
                              refine DepsE_cons rfl rfl rfl ?_
                              rintro _ _ ⟨rfl, rfl⟩ _
                              refine DepsE_nil ?_
                              refine ⟨_, rfl, ?_⟩
                              refine WL_call Try.call24 rfl rfl (c_M_TryCall x43 v25 (h5.now (Keep.refl _ _)) x44 a3 x45 hr24) ?_
                              rintro _ w46 ⟨hB39, v27, v28, v29, F18, F19, F20, rfl, hv25, hv26, hv27, hn15, hb15⟩
                              refine WL_nil ?_
                              exact FinE_own (F := F18 ++ (F19 ++ F20)) hB39 rfl rfl ⟨_, _, _, _, _, _, rfl, rfl, hv25, hv26, hv27⟩ (by simpa using hn15) (fun b h => hb15 b (by simpa using h)) (fun b h => by simp only [List.mem_append] at h; rcases h with h | h | h; exact Val.inh hv25 b h; exact Val.inh hv26 b h; exact Val.inh hv27 b h)
                            refine StepsE_cons rfl ?_ ?_
                            · intro w49 hB42
                              refine DepsE_cons rfl rfl rfl ?_
                              rintro _ _ ⟨v27, v28, v29, F18, F19, F20, rfl, rfl, hv25, hv26, hv27⟩ _
                              obtain ⟨rfl, rfl⟩ := val_bool hv27
                              obtain ⟨v30, rfl, h6⟩ := ro_st26 (ro_of_own hv25)
                              obtain rfl := ro_st35 (ro_of_own hv26)
                              refine DepsE_nil ?_
                              refine ⟨_, rfl, ?_⟩
                              refine WL_move rfl rfl ?_
                              refine WL_nil ?_
                              exact FinE_val (Below.refl _ _) rfl rfl ⟨rfl, rfl⟩
                            refine StepsE_cons rfl ?_ ?_
                            · intro w49 hB42
                              refine DepsE_cons rfl rfl rfl ?_
                              rintro _ _ ⟨v27, v28, v29, F18, F19, F20, rfl, rfl, hv25, hv26, hv27⟩ _
                              obtain ⟨rfl, rfl⟩ := val_bool hv27
                              obtain ⟨v30, rfl, h6⟩ := ro_st26 (ro_of_own hv25)
                              obtain rfl := ro_st35 (ro_of_own hv26)
                              refine DepsE_cons rfl rfl rfl ?_
                              rintro _ _ ⟨rfl, rfl⟩ _
                              refine DepsE_nil ?_
                              refine ⟨_, rfl, ?_⟩
                              refine WL_extract rfl rfl rfl ?_
                              refine WL_nil ?_
                              exact FinE_val (Below.refl _ _) rfl rfl ⟨⟨_, rfl, rfl⟩, rfl⟩
                            refine StepsE_cons rfl ?_ ?_
                            · intro w49 hB42
                              refine DepsE_cons rfl rfl rfl ?_
                              rintro _ _ ⟨v27, v28, v29, F18, F19, F20, rfl, rfl, hv25, hv26, hv27⟩ _
                              obtain ⟨rfl, rfl⟩ := val_bool hv27
                              obtain ⟨v30, rfl, h6⟩ := ro_st26 (ro_of_own hv25)
                              obtain rfl := ro_st35 (ro_of_own hv26)
                              refine DepsE_cons rfl rfl rfl ?_
                              rintro _ _ ⟨rfl, rfl⟩ _
                              refine DepsE_nil ?_
                              refine ⟨_, rfl, ?_⟩
                              refine WL_extract rfl rfl rfl ?_
                              refine WL_nil ?_
                              exact FinE_val (Below.refl _ _) rfl rfl ⟨⟨_, rfl, rfl⟩, rfl⟩
                            refine StepsE_cons rfl ?_ ?_
                            · intro w49 hB42
                              refine DepsE_cons rfl rfl rfl ?_
                              rintro _ _ ⟨v27, v28, v29, F18, F19, F20, rfl, rfl, hv25, hv26, hv27⟩ _
                              obtain ⟨rfl, rfl⟩ := val_bool hv27
                              obtain ⟨v30, rfl, h6⟩ := ro_st26 (ro_of_own hv25)
                              obtain rfl := ro_st35 (ro_of_own hv26)
                              refine DepsE_cons rfl rfl rfl ?_
                              rintro _ _ ⟨rfl, rfl⟩ _
                              refine DepsE_nil ?_
                              refine ⟨_, rfl, ?_⟩
                              refine WL_extract rfl rfl rfl ?_
                              refine WL_nil ?_
                              exact FinE_val (Below.refl _ _) rfl rfl ⟨⟨_, rfl, rfl⟩, rfl⟩
                            refine StepsE_cons rfl ?_ ?_
                            · intro w49 hB42
                              refine DepsE_nil ?_
                              refine ⟨_, rfl, ?_⟩
                              refine WL_alloc (Ctx.start _) zero26 rfl rfl (fun b14 w47 hC97 hB40 => ?_)
                              refine WL_nil ?_
                              exact FinE_ctx hC97 rfl rfl (fun F h => ⟨b14, rfl, h⟩)
                            refine StepsE_cons rfl ?_ ?_
                            · intro w49 hB42
                              refine DepsE_nil ?_
                              refine ⟨_, rfl, ?_⟩
                              refine WL_alloc (Ctx.start _) zero35 rfl rfl (fun b15 w48 hC98 hB41 => ?_)
                              refine WL_nil ?_
                              exact FinE_ctx hC98 rfl rfl (fun F h => ⟨b15, rfl, h⟩)
                            exact StepsE_nil
                          · intro g' hg'
                            obtain rfl : g' = 3 := hg'
                            intro w50 hB43
                            refine AllE_cons rfl rfl rfl ?_
                            rintro _ _ ⟨rfl, rfl⟩
                            refine AllE_cons rfl rfl rfl ?_
                            intro v24 F16 hv23
                            refine AllE_cons rfl rfl rfl ?_
                            rintro _ _ ⟨rfl, rfl⟩
                            refine AllE_cons rfl rfl rfl ?_
                            rintro _ _ ⟨rfl, rfl⟩
                            refine AllE_cons rfl rfl rfl ?_
                            rintro _ _ ⟨v27, v28, v29, F18, F19, F20, rfl, rfl, hv25, hv26, hv27⟩
                            obtain ⟨rfl, rfl⟩ := val_bool hv27
                            refine AllE_cons rfl rfl rfl ?_
                            rintro _ _ ⟨rfl, rfl⟩
                            refine AllE_cons rfl rfl rfl ?_
                            rintro _ _ ⟨⟨_, hx13, hx14⟩, rfl⟩
                            obtain rfl := Value.tuple.inj hx13
                            obtain rfl := Option.some.inj (show (some v27 : Option Value) = some _ from hx14)
                            refine AllE_cons rfl rfl rfl ?_
                            rintro _ _ ⟨⟨_, hx15, hx16⟩, rfl⟩
                            obtain rfl := Value.tuple.inj hx15
                            obtain rfl := Option.some.inj (show (some v28 : Option Value) = some _ from hx16)
                            refine AllE_cons rfl rfl rfl ?_
                            rintro _ _ ⟨⟨_, hx17, hx18⟩, rfl⟩
                            obtain rfl := Value.tuple.inj hx17
                            obtain rfl := Option.some.inj (show (some (.bool x45.2.2) : Option Value) = some _ from hx18)
                            refine AllE_cons rfl rfl rfl ?_
                            rintro _ F21 ⟨b14, rfl, hv28⟩
                            refine AllE_cons rfl rfl rfl ?_
                            rintro _ F22 ⟨b15, rfl, hv29⟩
                            refine AllE_nil ?_
                            intro hn16 hb16
                            have hC99 := hC96.pushL hB43 (Bs := [Item.box b15 [(.int .i64 0), (.int .i64 0), (.int .i64 0), (.bool false)], Item.box b14 [(.slice none 0 0), (.int .i64 0), (.int .i64 0)], Item.own v27 (x45.1 : ((List Int) × Int × Int)), Item.own v28 (x45.2.1 : (Int × Int × Int × Bool)), Item.own v24 (x43 : ((List Int) × Int × Int))]) (Fs := [F22, F21, F18, F19, F16]) ⟨F22, _, rfl, hv29, F21, _, rfl, hv28, F18, _, rfl, hv25, F19, _, rfl, hv26, F16, _, rfl, hv23, rfl⟩ (by simpa using hn16) (fun b h => (hb16 b (by simpa using h)).1)
                            have hC100 : Ctx [] w0 _ [Item.own v24 (x43 : ((List Int) × Int × Int)), Item.box b15 [(.int .i64 0), (.int .i64 0), (.int .i64 0), (.bool false)], Item.box b14 [(.slice none 0 0), (.int .i64 0), (.int .i64 0)], Item.own v27 (x45.1 : ((List Int) × Int × Int)), Item.own v28 (x45.2.1 : (Int × Int × Int × Bool)), Item.own v13 (x33.2.1 : (List Int)), Item.box b8 [v13, (.int .i64 x16), (.int .i64 x17)], Item.box b4 [(.int .i64 x6), (.int .i64 x7), (.int .i64 x8), (.bool x9)], Item.box b3 [v1, (.int .i64 x4), (.int .i64 x5)], Item.own v1 (x3 : (List Int)), Item.box b2 [(.int .i64 a2.1), (.int .i64 a2.2.1), (.int .i64 a2.2.2.1), (.bool a2.2.2.2)], Item.box b1 [u1, (.int .i64 a1.2.1), (.int .i64 a1.2.2)]] := hC99.front 4 rfl
                            obtain ⟨v31, rfl, hC101⟩ := st26_own hC100
                            have hC102 : Ctx [] w0 _ [Item.own v27 (x45.1 : ((List Int) × Int × Int)), Item.own v31 (x43.1 : (List Int)), Item.box b15 [(.int .i64 0), (.int .i64 0), (.int .i64 0), (.bool false)], Item.box b14 [(.slice none 0 0), (.int .i64 0), (.int .i64 0)], Item.own v28 (x45.2.1 : (Int × Int × Int × Bool)), Item.own v13 (x33.2.1 : (List Int)), Item.box b8 [v13, (.int .i64 x16), (.int .i64 x17)], Item.box b4 [(.int .i64 x6), (.int .i64 x7), (.int .i64 x8), (.bool x9)], Item.box b3 [v1, (.int .i64 x4), (.int .i64 x5)], Item.own v1 (x3 : (List Int)), Item.box b2 [(.int .i64 a2.1), (.int .i64 a2.2.1), (.int .i64 a2.2.2.1), (.bool a2.2.2.2)], Item.box b1 [u1, (.int .i64 a1.2.1), (.int .i64 a1.2.2)]] := hC101.front 3 rfl
                            obtain ⟨v32, rfl, hC103⟩ := st26_own hC102
                            have hC104 : Ctx [] w0 _ [Item.own v28 (x45.2.1 : (Int × Int × Int × Bool)), Item.own v32 (x45.1.1 : (List Int)), Item.own v31 (x43.1 : (List Int)), Item.box b15 [(.int .i64 0), (.int .i64 0), (.int .i64 0), (.bool false)], Item.box b14 [(.slice none 0 0), (.int .i64 0), (.int .i64 0)], Item.own v13 (x33.2.1 : (List Int)), Item.box b8 [v13, (.int .i64 x16), (.int .i64 x17)], Item.box b4 [(.int .i64 x6), (.int .i64 x7), (.int .i64 x8), (.bool x9)], Item.box b3 [v1, (.int .i64 x4), (.int .i64 x5)], Item.own v1 (x3 : (List Int)), Item.box b2 [(.int .i64 a2.1), (.int .i64 a2.2.1), (.int .i64 a2.2.2.1), (.bool a2.2.2.2)], Item.box b1 [u1, (.int .i64 a1.2.1), (.int .i64 a1.2.2)]] := hC103.front 4 rfl
                            obtain ⟨rfl, hC105⟩ := st35_own hC104
                            refine WA_one 12 (by kernel_rfl) rfl ?_
                            refine WL_store_box_agg (cs' := [v32, (.int .i64 x45.1.2.1), (.int .i64 x45.1.2.2)]) (new := [v32, (.int .i64 x45.1.2.1), (.int .i64 x45.1.2.2)]) hC105 3 rfl rfl (by intro v hv; simp only [List.mem_cons, List.not_mem_nil, or_false] at hv; rcases hv with rfl | rfl | rfl; exact (ro_one (hC105.ro 0 rfl)); exact rfl; exact rfl) rfl Try.sizeOf26 rfl rfl (fun w51 hC106 => ?_)
                            try dsimp only [List.set] at hC106
                            refine WL_nil ?_
                            refine WA_one 13 (by kernel_rfl) rfl ?_
                            refine WL_store_box_agg (cs' := [(.int .i64 x45.2.1.1), (.int .i64 x45.2.1.2.1), (.int .i64 x45.2.1.2.2.1), (.bool x45.2.1.2.2.2)]) (new := [(.int .i64 x45.2.1.1), (.int .i64 x45.2.1.2.1), (.int .i64 x45.2.1.2.2.1), (.bool x45.2.1.2.2.2)]) hC106 2 rfl rfl (by intro v hv; simp only [List.mem_cons, List.not_mem_nil, or_false] at hv; rcases hv with rfl | rfl | rfl | rfl; exact rfl; exact rfl; exact rfl; exact rfl) rfl Try.sizeOf35 rfl rfl (fun w52 hC107 => ?_)
                            try dsimp only [List.set] at hC107
                            refine WL_nil ?_
                            refine WA_take 14 rfl (by kernel_rfl) (by kernel_rfl) (by kernel_rfl) rfl (fl_assign rfl) ?_
                            refine WL_assign rfl rfl ?_
                            refine WL_nil ?_
                            refine WA_done (by kernel_rfl) ?_
                            have hq18 := Option.some.inj hr21
                            subst hq18
                            have hC108 : Ctx [] w0 _ [Item.own v1 (x3 : (List Int)), Item.own v32 (x45.1.1 : (List Int)), Item.own v31 (x43.1 : (List Int)), Item.box b15 [(.int .i64 x45.2.1.1), (.int .i64 x45.2.1.2.1), (.int .i64 x45.2.1.2.2.1), (.bool x45.2.1.2.2.2)], Item.box b14 [v32, (.int .i64 x45.1.2.1), (.int .i64 x45.1.2.2)], Item.own v13 (x33.2.1 : (List Int)), Item.box b8 [v13, (.int .i64 x16), (.int .i64 x17)], Item.box b4 [(.int .i64 x6), (.int .i64 x7), (.int .i64 x8), (.bool x9)], Item.box b3 [v1, (.int .i64 x4), (.int .i64 x5)], Item.box b2 [(.int .i64 a2.1), (.int .i64 a2.2.1), (.int .i64 a2.2.2.1), (.bool a2.2.2.2)], Item.box b1 [u1, (.int .i64 a1.2.1), (.int .i64 a1.2.2)]] := hC107.front 8 rfl
                            have hC109 : Ctx [] w0 _ [Item.box b3 [v1, (.int .i64 x4), (.int .i64 x5)], Item.own v1 (x3 : (List Int)), Item.own v32 (x45.1.1 : (List Int)), Item.own v31 (x43.1 : (List Int)), Item.box b15 [(.int .i64 x45.2.1.1), (.int .i64 x45.2.1.2.1), (.int .i64 x45.2.1.2.2.1), (.bool x45.2.1.2.2.2)], Item.box b14 [v32, (.int .i64 x45.1.2.1), (.int .i64 x45.1.2.2)], Item.own v13 (x33.2.1 : (List Int)), Item.box b8 [v13, (.int .i64 x16), (.int .i64 x17)], Item.box b4 [(.int .i64 x6), (.int .i64 x7), (.int .i64 x8), (.bool x9)], Item.box b2 [(.int .i64 a2.1), (.int .i64 a2.2.1), (.int .i64 a2.2.2.1), (.bool a2.2.2.2)], Item.box b1 [u1, (.int .i64 a1.2.1), (.int .i64 a1.2.2)]] := hC108.front 8 rfl
                            have hC110 : Ctx [] w0 _ [Item.box b4 [(.int .i64 x6), (.int .i64 x7), (.int .i64 x8), (.bool x9)], Item.box b3 [v1, (.int .i64 x4), (.int .i64 x5)], Item.own v1 (x3 : (List Int)), Item.own v32 (x45.1.1 : (List Int)), Item.own v31 (x43.1 : (List Int)), Item.box b15 [(.int .i64 x45.2.1.1), (.int .i64 x45.2.1.2.1), (.int .i64 x45.2.1.2.2.1), (.bool x45.2.1.2.2.2)], Item.box b14 [v32, (.int .i64 x45.1.2.1), (.int .i64 x45.1.2.2)], Item.own v13 (x33.2.1 : (List Int)), Item.box b8 [v13, (.int .i64 x16), (.int .i64 x17)], Item.box b2 [(.int .i64 a2.1), (.int .i64 a2.2.1), (.int .i64 a2.2.2.1), (.bool a2.2.2.2)], Item.box b1 [u1, (.int .i64 a1.2.1), (.int .i64 a1.2.2)]] := hC109.front 8 rfl
                            have hC111 : Ctx [] w0 _ [Item.box b8 [v13, (.int .i64 x16), (.int .i64 x17)], Item.box b4 [(.int .i64 x6), (.int .i64 x7), (.int .i64 x8), (.bool x9)], Item.box b3 [v1, (.int .i64 x4), (.int .i64 x5)], Item.own v1 (x3 : (List Int)), Item.own v32 (x45.1.1 : (List Int)), Item.own v31 (x43.1 : (List Int)), Item.box b15 [(.int .i64 x45.2.1.1), (.int .i64 x45.2.1.2.1), (.int .i64 x45.2.1.2.2.1), (.bool x45.2.1.2.2.2)], Item.box b14 [v32, (.int .i64 x45.1.2.1), (.int .i64 x45.1.2.2)], Item.own v13 (x33.2.1 : (List Int)), Item.box b2 [(.int .i64 a2.1), (.int .i64 a2.2.1), (.int .i64 a2.2.2.1), (.bool a2.2.2.2)], Item.box b1 [u1, (.int .i64 a1.2.1), (.int .i64 a1.2.2)]] := hC110.front 8 rfl
                            have hC112 : Ctx [] w0 _ [Item.own v13 (x33.2.1 : (List Int)), Item.box b8 [v13, (.int .i64 x16), (.int .i64 x17)], Item.box b4 [(.int .i64 x6), (.int .i64 x7), (.int .i64 x8), (.bool x9)], Item.box b3 [v1, (.int .i64 x4), (.int .i64 x5)], Item.own v1 (x3 : (List Int)), Item.own v32 (x45.1.1 : (List Int)), Item.own v31 (x43.1 : (List Int)), Item.box b15 [(.int .i64 x45.2.1.1), (.int .i64 x45.2.1.2.1), (.int .i64 x45.2.1.2.2.1), (.bool x45.2.1.2.2.2)], Item.box b14 [v32, (.int .i64 x45.1.2.1), (.int .i64 x45.1.2.2)], Item.box b2 [(.int .i64 a2.1), (.int .i64 a2.2.1), (.int .i64 a2.2.2.1), (.bool a2.2.2.2)], Item.box b1 [u1, (.int .i64 a1.2.1), (.int .i64 a1.2.2)]] := hC111.front 8 rfl
                            have hC113 : Ctx [] w0 _ [Item.own v32 (x45.1.1 : (List Int)), Item.own v13 (x33.2.1 : (List Int)), Item.box b8 [v13, (.int .i64 x16), (.int .i64 x17)], Item.box b4 [(.int .i64 x6), (.int .i64 x7), (.int .i64 x8), (.bool x9)], Item.box b3 [v1, (.int .i64 x4), (.int .i64 x5)], Item.own v1 (x3 : (List Int)), Item.own v31 (x43.1 : (List Int)), Item.box b15 [(.int .i64 x45.2.1.1), (.int .i64 x45.2.1.2.1), (.int .i64 x45.2.1.2.2.1), (.bool x45.2.1.2.2.2)], Item.box b14 [v32, (.int .i64 x45.1.2.1), (.int .i64 x45.1.2.2)], Item.box b2 [(.int .i64 a2.1), (.int .i64 a2.2.1), (.int .i64 a2.2.2.1), (.bool a2.2.2.2)], Item.box b1 [u1, (.int .i64 a1.2.1), (.int .i64 a1.2.2)]] := hC112.front 5 rfl
                            have hC114 : Ctx [] w0 _ [Item.box b14 [v32, (.int .i64 x45.1.2.1), (.int .i64 x45.1.2.2)], Item.own v32 (x45.1.1 : (List Int)), Item.own v13 (x33.2.1 : (List Int)), Item.box b8 [v13, (.int .i64 x16), (.int .i64 x17)], Item.box b4 [(.int .i64 x6), (.int .i64 x7), (.int .i64 x8), (.bool x9)], Item.box b3 [v1, (.int .i64 x4), (.int .i64 x5)], Item.own v1 (x3 : (List Int)), Item.own v31 (x43.1 : (List Int)), Item.box b15 [(.int .i64 x45.2.1.1), (.int .i64 x45.2.1.2.1), (.int .i64 x45.2.1.2.2.1), (.bool x45.2.1.2.2.2)], Item.box b2 [(.int .i64 a2.1), (.int .i64 a2.2.1), (.int .i64 a2.2.2.1), (.bool a2.2.2.2)], Item.box b1 [u1, (.int .i64 a1.2.1), (.int .i64 a1.2.2)]] := hC113.front 8 rfl
                            have hC115 : Ctx [] w0 _ [Item.box b15 [(.int .i64 x45.2.1.1), (.int .i64 x45.2.1.2.1), (.int .i64 x45.2.1.2.2.1), (.bool x45.2.1.2.2.2)], Item.box b14 [v32, (.int .i64 x45.1.2.1), (.int .i64 x45.1.2.2)], Item.own v32 (x45.1.1 : (List Int)), Item.own v13 (x33.2.1 : (List Int)), Item.box b8 [v13, (.int .i64 x16), (.int .i64 x17)], Item.box b4 [(.int .i64 x6), (.int .i64 x7), (.int .i64 x8), (.bool x9)], Item.box b3 [v1, (.int .i64 x4), (.int .i64 x5)], Item.own v1 (x3 : (List Int)), Item.own v31 (x43.1 : (List Int)), Item.box b2 [(.int .i64 a2.1), (.int .i64 a2.2.1), (.int .i64 a2.2.2.1), (.bool a2.2.2.2)], Item.box b1 [u1, (.int .i64 a1.2.1), (.int .i64 a1.2.2)]] := hC114.front 8 rfl
                            have hC116 : Ctx [] w0 _ [Item.box b15 [(.int .i64 x45.2.1.1), (.int .i64 x45.2.1.2.1), (.int .i64 x45.2.1.2.2.1), (.bool x45.2.1.2.2.2)], Item.box b14 [v32, (.int .i64 x45.1.2.1), (.int .i64 x45.1.2.2)], Item.own v32 (x45.1.1 : (List Int)), Item.own v13 (x33.2.1 : (List Int)), Item.box b8 [v13, (.int .i64 x16), (.int .i64 x17)], Item.box b4 [(.int .i64 x6), (.int .i64 x7), (.int .i64 x8), (.bool x9)], Item.box b3 [v1, (.int .i64 x4), (.int .i64 x5)], Item.own v1 (x3 : (List Int))] := hC115.headN 8
                            refine nrm_sub (l' := [(8, (ptr b3 0)), (9, (ptr b4 0)), (10, (.bool x2)), (12, (ptr b8 0)), (16, (.int .i64 x33.1)), (18, (ptr b14 0)), (19, (ptr b15 0)), (20, (.bool x45.2.2))]) ⟨rfl, rfl, rfl, rfl, rfl, rfl, rfl, rfl, trivial⟩ ?_
                            exact ⟨x45.2.2, b14, v32, x45.1.1, x45.1.2.1, x45.1.2.2, b15, x45.2.1.1, x45.2.1.2.1, x45.2.1.2.2.1, x45.2.1.2.2.2, rfl, rfl, hC116⟩
                          · intro g' hg'
                            obtain rfl : g' = 4 := hg'
                            intro w50 hB43
                            refine AllE_cons rfl rfl rfl ?_
                            rintro _ _ ⟨rfl, rfl⟩
                            refine AllE_cons rfl rfl rfl ?_
                            intro v24 F16 hv23
                            refine AllE_cons rfl rfl rfl ?_
                            rintro _ _ ⟨rfl, rfl⟩
                            refine AllE_cons rfl rfl rfl ?_
                            rintro _ _ ⟨rfl, rfl⟩
                            refine AllE_cons rfl rfl rfl ?_
                            rintro _ _ ⟨v27, v28, v29, F18, F19, F20, rfl, rfl, hv25, hv26, hv27⟩
                            obtain ⟨rfl, rfl⟩ := val_bool hv27
                            refine AllE_cons rfl rfl rfl ?_
                            rintro _ _ ⟨rfl, rfl⟩
                            refine AllE_cons rfl rfl rfl ?_
                            rintro _ _ ⟨⟨_, hx13, hx14⟩, rfl⟩
                            obtain rfl := Value.tuple.inj hx13
                            obtain rfl := Option.some.inj (show (some v27 : Option Value) = some _ from hx14)
                            refine AllE_cons rfl rfl rfl ?_
                            rintro _ _ ⟨⟨_, hx15, hx16⟩, rfl⟩
                            obtain rfl := Value.tuple.inj hx15
                            obtain rfl := Option.some.inj (show (some v28 : Option Value) = some _ from hx16)
                            refine AllE_cons rfl rfl rfl ?_
                            rintro _ F21 ⟨b14, rfl, hv28⟩
                            refine AllE_cons rfl rfl rfl ?_
                            rintro _ F22 ⟨b15, rfl, hv29⟩
                            refine AllE_nil ?_
                            intro hn16 hb16
                            have hC99 := hC96.pushL hB43 (Bs := [Item.box b15 [(.int .i64 0), (.int .i64 0), (.int .i64 0), (.bool false)], Item.box b14 [(.slice none 0 0), (.int .i64 0), (.int .i64 0)], Item.own v27 (x45.1 : ((List Int) × Int × Int)), Item.own v28 (x45.2.1 : (Int × Int × Int × Bool)), Item.own v24 (x43 : ((List Int) × Int × Int))]) (Fs := [F22, F21, F18, F19, F16]) ⟨F22, _, rfl, hv29, F21, _, rfl, hv28, F18, _, rfl, hv25, F19, _, rfl, hv26, F16, _, rfl, hv23, rfl⟩ (by simpa using hn16) (fun b h => (hb16 b (by simpa using h)).1)
                            have hC100 : Ctx [] w0 _ [Item.own v24 (x43 : ((List Int) × Int × Int)), Item.box b15 [(.int .i64 0), (.int .i64 0), (.int .i64 0), (.bool false)], Item.box b14 [(.slice none 0 0), (.int .i64 0), (.int .i64 0)], Item.own v27 (x45.1 : ((List Int) × Int × Int)), Item.own v28 (x45.2.1 : (Int × Int × Int × Bool)), Item.own v13 (x33.2.1 : (List Int)), Item.box b8 [v13, (.int .i64 x16), (.int .i64 x17)], Item.box b4 [(.int .i64 x6), (.int .i64 x7), (.int .i64 x8), (.bool x9)], Item.box b3 [v1, (.int .i64 x4), (.int .i64 x5)], Item.own v1 (x3 : (List Int)), Item.box b2 [(.int .i64 a2.1), (.int .i64 a2.2.1), (.int .i64 a2.2.2.1), (.bool a2.2.2.2)], Item.box b1 [u1, (.int .i64 a1.2.1), (.int .i64 a1.2.2)]] := hC99.front 4 rfl
                            obtain ⟨v31, rfl, hC101⟩ := st26_own hC100
                            have hC102 : Ctx [] w0 _ [Item.own v27 (x45.1 : ((List Int) × Int × Int)), Item.own v31 (x43.1 : (List Int)), Item.box b15 [(.int .i64 0), (.int .i64 0), (.int .i64 0), (.bool false)], Item.box b14 [(.slice none 0 0), (.int .i64 0), (.int .i64 0)], Item.own v28 (x45.2.1 : (Int × Int × Int × Bool)), Item.own v13 (x33.2.1 : (List Int)), Item.box b8 [v13, (.int .i64 x16), (.int .i64 x17)], Item.box b4 [(.int .i64 x6), (.int .i64 x7), (.int .i64 x8), (.bool x9)], Item.box b3 [v1, (.int .i64 x4), (.int .i64 x5)], Item.own v1 (x3 : (List Int)), Item.box b2 [(.int .i64 a2.1), (.int .i64 a2.2.1), (.int .i64 a2.2.2.1), (.bool a2.2.2.2)], Item.box b1 [u1, (.int .i64 a1.2.1), (.int .i64 a1.2.2)]] := hC101.front 3 rfl
                            obtain ⟨v32, rfl, hC103⟩ := st26_own hC102
                            have hC104 : Ctx [] w0 _ [Item.own v28 (x45.2.1 : (Int × Int × Int × Bool)), Item.own v32 (x45.1.1 : (List Int)), Item.own v31 (x43.1 : (List Int)), Item.box b15 [(.int .i64 0), (.int .i64 0), (.int .i64 0), (.bool false)], Item.box b14 [(.slice none 0 0), (.int .i64 0), (.int .i64 0)], Item.own v13 (x33.2.1 : (List Int)), Item.box b8 [v13, (.int .i64 x16), (.int .i64 x17)], Item.box b4 [(.int .i64 x6), (.int .i64 x7), (.int .i64 x8), (.bool x9)], Item.box b3 [v1, (.int .i64 x4), (.int .i64 x5)], Item.own v1 (x3 : (List Int)), Item.box b2 [(.int .i64 a2.1), (.int .i64 a2.2.1), (.int .i64 a2.2.2.1), (.bool a2.2.2.2)], Item.box b1 [u1, (.int .i64 a1.2.1), (.int .i64 a1.2.2)]] := hC103.front 4 rfl
                            obtain ⟨rfl, hC105⟩ := st35_own hC104
                            refine WA_take 9 rfl (by kernel_rfl) (by kernel_rfl) (by kernel_rfl) rfl (fl_extract rfl rfl) ?_
                            refine WL_extract rfl rfl rfl ?_
                            refine WL_nil ?_
                            refine WA_one 12 (by kernel_rfl) rfl ?_
                            refine WL_store_box_agg (cs' := [v32, (.int .i64 x45.1.2.1), (.int .i64 x45.1.2.2)]) (new := [v32, (.int .i64 x45.1.2.1), (.int .i64 x45.1.2.2)]) hC105 3 rfl rfl (by intro v hv; simp only [List.mem_cons, List.not_mem_nil, or_false] at hv; rcases hv with rfl | rfl | rfl; exact (ro_one (hC105.ro 0 rfl)); exact rfl; exact rfl) rfl Try.sizeOf26 rfl rfl (fun w51 hC106 => ?_)
                            try dsimp only [List.set] at hC106
                            refine WL_nil ?_
                            refine WA_one 13 (by kernel_rfl) rfl ?_
                            refine WL_store_box_agg (cs' := [(.int .i64 x45.2.1.1), (.int .i64 x45.2.1.2.1), (.int .i64 x45.2.1.2.2.1), (.bool x45.2.1.2.2.2)]) (new := [(.int .i64 x45.2.1.1), (.int .i64 x45.2.1.2.1), (.int .i64 x45.2.1.2.2.1), (.bool x45.2.1.2.2.2)]) hC106 2 rfl rfl (by intro v hv; simp only [List.mem_cons, List.not_mem_nil, or_false] at hv; rcases hv with rfl | rfl | rfl | rfl; exact rfl; exact rfl; exact rfl; exact rfl) rfl Try.sizeOf35 rfl rfl (fun w52 hC107 => ?_)
                            try dsimp only [List.set] at hC107
                            refine WL_nil ?_
                            refine WA_take 14 rfl (by kernel_rfl) (by kernel_rfl) (by kernel_rfl) rfl (fl_assign rfl) ?_
                            refine WL_assign rfl rfl ?_
                            refine WL_nil ?_
                            refine WA_done (by kernel_rfl) ?_
                            have hq18 := Option.some.inj hr21
                            subst hq18
                            have hC108 : Ctx [] w0 _ [Item.own v1 (x3 : (List Int)), Item.own v32 (x45.1.1 : (List Int)), Item.own v31 (x43.1 : (List Int)), Item.box b15 [(.int .i64 x45.2.1.1), (.int .i64 x45.2.1.2.1), (.int .i64 x45.2.1.2.2.1), (.bool x45.2.1.2.2.2)], Item.box b14 [v32, (.int .i64 x45.1.2.1), (.int .i64 x45.1.2.2)], Item.own v13 (x33.2.1 : (List Int)), Item.box b8 [v13, (.int .i64 x16), (.int .i64 x17)], Item.box b4 [(.int .i64 x6), (.int .i64 x7), (.int .i64 x8), (.bool x9)], Item.box b3 [v1, (.int .i64 x4), (.int .i64 x5)], Item.box b2 [(.int .i64 a2.1), (.int .i64 a2.2.1), (.int .i64 a2.2.2.1), (.bool a2.2.2.2)], Item.box b1 [u1, (.int .i64 a1.2.1), (.int .i64 a1.2.2)]] := hC107.front 8 rfl
                            have hC109 : Ctx [] w0 _ [Item.box b3 [v1, (.int .i64 x4), (.int .i64 x5)], Item.own v1 (x3 : (List Int)), Item.own v32 (x45.1.1 : (List Int)), Item.own v31 (x43.1 : (List Int)), Item.box b15 [(.int .i64 x45.2.1.1), (.int .i64 x45.2.1.2.1), (.int .i64 x45.2.1.2.2.1), (.bool x45.2.1.2.2.2)], Item.box b14 [v32, (.int .i64 x45.1.2.1), (.int .i64 x45.1.2.2)], Item.own v13 (x33.2.1 : (List Int)), Item.box b8 [v13, (.int .i64 x16), (.int .i64 x17)], Item.box b4 [(.int .i64 x6), (.int .i64 x7), (.int .i64 x8), (.bool x9)], Item.box b2 [(.int .i64 a2.1), (.int .i64 a2.2.1), (.int .i64 a2.2.2.1), (.bool a2.2.2.2)], Item.box b1 [u1, (.int .i64 a1.2.1), (.int .i64 a1.2.2)]] := hC108.front 8 rfl
                            have hC110 : Ctx [] w0 _ [Item.box b4 [(.int .i64 x6), (.int .i64 x7), (.int .i64 x8), (.bool x9)], Item.box b3 [v1, (.int .i64 x4), (.int .i64 x5)], Item.own v1 (x3 : (List Int)), Item.own v32 (x45.1.1 : (List Int)), Item.own v31 (x43.1 : (List Int)), Item.box b15 [(.int .i64 x45.2.1.1), (.int .i64 x45.2.1.2.1), (.int .i64 x45.2.1.2.2.1), (.bool x45.2.1.2.2.2)], Item.box b14 [v32, (.int .i64 x45.1.2.1), (.int .i64 x45.1.2.2)], Item.own v13 (x33.2.1 : (List Int)), Item.box b8 [v13, (.int .i64 x16), (.int .i64 x17)], Item.box b2 [(.int .i64 a2.1), (.int .i64 a2.2.1), (.int .i64 a2.2.2.1), (.bool a2.2.2.2)], Item.box b1 [u1, (.int .i64 a1.2.1), (.int .i64 a1.2.2)]] := hC109.front 8 rfl
                            have hC111 : Ctx [] w0 _ [Item.box b8 [v13, (.int .i64 x16), (.int .i64 x17)], Item.box b4 [(.int .i64 x6), (.int .i64 x7), (.int .i64 x8), (.bool x9)], Item.box b3 [v1, (.int .i64 x4), (.int .i64 x5)], Item.own v1 (x3 : (List Int)), Item.own v32 (x45.1.1 : (List Int)), Item.own v31 (x43.1 : (List Int)), Item.box b15 [(.int .i64 x45.2.1.1), (.int .i64 x45.2.1.2.1), (.int .i64 x45.2.1.2.2.1), (.bool x45.2.1.2.2.2)], Item.box b14 [v32, (.int .i64 x45.1.2.1), (.int .i64 x45.1.2.2)], Item.own v13 (x33.2.1 : (List Int)), Item.box b2 [(.int .i64 a2.1), (.int .i64 a2.2.1), (.int .i64 a2.2.2.1), (.bool a2.2.2.2)], Item.box b1 [u1, (.int .i64 a1.2.1), (.int .i64 a1.2.2)]] := hC110.front 8 rfl
                            have hC112 : Ctx [] w0 _ [Item.own v13 (x33.2.1 : (List Int)), Item.box b8 [v13, (.int .i64 x16), (.int .i64 x17)], Item.box b4 [(.int .i64 x6), (.int .i64 x7), (.int .i64 x8), (.bool x9)], Item.box b3 [v1, (.int .i64 x4), (.int .i64 x5)], Item.own v1 (x3 : (List Int)), Item.own v32 (x45.1.1 : (List Int)), Item.own v31 (x43.1 : (List Int)), Item.box b15 [(.int .i64 x45.2.1.1), (.int .i64 x45.2.1.2.1), (.int .i64 x45.2.1.2.2.1), (.bool x45.2.1.2.2.2)], Item.box b14 [v32, (.int .i64 x45.1.2.1), (.int .i64 x45.1.2.2)], Item.box b2 [(.int .i64 a2.1), (.int .i64 a2.2.1), (.int .i64 a2.2.2.1), (.bool a2.2.2.2)], Item.box b1 [u1, (.int .i64 a1.2.1), (.int .i64 a1.2.2)]] := hC111.front 8 rfl
                            have hC113 : Ctx [] w0 _ [Item.own v32 (x45.1.1 : (List Int)), Item.own v13 (x33.2.1 : (List Int)), Item.box b8 [v13, (.int .i64 x16), (.int .i64 x17)], Item.box b4 [(.int .i64 x6), (.int .i64 x7), (.int .i64 x8), (.bool x9)], Item.box b3 [v1, (.int .i64 x4), (.int .i64 x5)], Item.own v1 (x3 : (List Int)), Item.own v31 (x43.1 : (List Int)), Item.box b15 [(.int .i64 x45.2.1.1), (.int .i64 x45.2.1.2.1), (.int .i64 x45.2.1.2.2.1), (.bool x45.2.1.2.2.2)], Item.box b14 [v32, (.int .i64 x45.1.2.1), (.int .i64 x45.1.2.2)], Item.box b2 [(.int .i64 a2.1), (.int .i64 a2.2.1), (.int .i64 a2.2.2.1), (.bool a2.2.2.2)], Item.box b1 [u1, (.int .i64 a1.2.1), (.int .i64 a1.2.2)]] := hC112.front 5 rfl
                            have hC114 : Ctx [] w0 _ [Item.box b14 [v32, (.int .i64 x45.1.2.1), (.int .i64 x45.1.2.2)], Item.own v32 (x45.1.1 : (List Int)), Item.own v13 (x33.2.1 : (List Int)), Item.box b8 [v13, (.int .i64 x16), (.int .i64 x17)], Item.box b4 [(.int .i64 x6), (.int .i64 x7), (.int .i64 x8), (.bool x9)], Item.box b3 [v1, (.int .i64 x4), (.int .i64 x5)], Item.own v1 (x3 : (List Int)), Item.own v31 (x43.1 : (List Int)), Item.box b15 [(.int .i64 x45.2.1.1), (.int .i64 x45.2.1.2.1), (.int .i64 x45.2.1.2.2.1), (.bool x45.2.1.2.2.2)], Item.box b2 [(.int .i64 a2.1), (.int .i64 a2.2.1), (.int .i64 a2.2.2.1), (.bool a2.2.2.2)], Item.box b1 [u1, (.int .i64 a1.2.1), (.int .i64 a1.2.2)]] := hC113.front 8 rfl
                            have hC115 : Ctx [] w0 _ [Item.box b15 [(.int .i64 x45.2.1.1), (.int .i64 x45.2.1.2.1), (.int .i64 x45.2.1.2.2.1), (.bool x45.2.1.2.2.2)], Item.box b14 [v32, (.int .i64 x45.1.2.1), (.int .i64 x45.1.2.2)], Item.own v32 (x45.1.1 : (List Int)), Item.own v13 (x33.2.1 : (List Int)), Item.box b8 [v13, (.int .i64 x16), (.int .i64 x17)], Item.box b4 [(.int .i64 x6), (.int .i64 x7), (.int .i64 x8), (.bool x9)], Item.box b3 [v1, (.int .i64 x4), (.int .i64 x5)], Item.own v1 (x3 : (List Int)), Item.own v31 (x43.1 : (List Int)), Item.box b2 [(.int .i64 a2.1), (.int .i64 a2.2.1), (.int .i64 a2.2.2.1), (.bool a2.2.2.2)], Item.box b1 [u1, (.int .i64 a1.2.1), (.int .i64 a1.2.2)]] := hC114.front 8 rfl
                            have hC116 : Ctx [] w0 _ [Item.box b15 [(.int .i64 x45.2.1.1), (.int .i64 x45.2.1.2.1), (.int .i64 x45.2.1.2.2.1), (.bool x45.2.1.2.2.2)], Item.box b14 [v32, (.int .i64 x45.1.2.1), (.int .i64 x45.1.2.2)], Item.own v32 (x45.1.1 : (List Int)), Item.own v13 (x33.2.1 : (List Int)), Item.box b8 [v13, (.int .i64 x16), (.int .i64 x17)], Item.box b4 [(.int .i64 x6), (.int .i64 x7), (.int .i64 x8), (.bool x9)], Item.box b3 [v1, (.int .i64 x4), (.int .i64 x5)], Item.own v1 (x3 : (List Int))] := hC115.headN 8
                            refine nrm_sub (l' := [(8, (ptr b3 0)), (9, (ptr b4 0)), (10, (.bool x2)), (12, (ptr b8 0)), (16, (.int .i64 x33.1)), (18, (ptr b14 0)), (19, (ptr b15 0)), (20, (.bool x45.2.2))]) ⟨rfl, rfl, rfl, rfl, rfl, rfl, rfl, rfl, trivial⟩ ?_
                            exact ⟨x45.2.2, b14, v32, x45.1.1, x45.1.2.1, x45.1.2.2, b15, x45.2.1.1, x45.2.1.2.1, x45.2.1.2.2.1, x45.2.1.2.2.2, rfl, rfl, hC116⟩
                          · intro g' hg'
                            obtain rfl : g' = 4 := hg'
                            intro w50 hB43
                            refine AllE_cons rfl rfl rfl ?_
                            rintro _ _ ⟨rfl, rfl⟩
                            refine AllE_cons rfl rfl rfl ?_
                            intro v24 F16 hv23
                            refine AllE_cons rfl rfl rfl ?_
                            rintro _ _ ⟨rfl, rfl⟩
                            refine AllE_cons rfl rfl rfl ?_
                            rintro _ _ ⟨rfl, rfl⟩
                            refine AllE_cons rfl rfl rfl ?_
                            rintro _ _ ⟨v27, v28, v29, F18, F19, F20, rfl, rfl, hv25, hv26, hv27⟩
                            obtain ⟨rfl, rfl⟩ := val_bool hv27
                            refine AllE_cons rfl rfl rfl ?_
                            rintro _ _ ⟨rfl, rfl⟩
                            refine AllE_cons rfl rfl rfl ?_
                            rintro _ _ ⟨⟨_, hx13, hx14⟩, rfl⟩
                            obtain rfl := Value.tuple.inj hx13
                            obtain rfl := Option.some.inj (show (some v27 : Option Value) = some _ from hx14)
                            refine AllE_cons rfl rfl rfl ?_
                            rintro _ _ ⟨⟨_, hx15, hx16⟩, rfl⟩
                            obtain rfl := Value.tuple.inj hx15
                            obtain rfl := Option.some.inj (show (some (.bool x45.2.2) : Option Value) = some _ from hx16)
                            refine AllE_cons rfl rfl rfl ?_
                            rintro _ F21 ⟨b14, rfl, hv28⟩
                            refine AllE_cons rfl rfl rfl ?_
                            rintro _ F22 ⟨b15, rfl, hv29⟩
                            refine AllE_nil ?_
                            intro hn16 hb16
                            have hC99 := hC96.pushL hB43 (Bs := [Item.box b15 [(.int .i64 0), (.int .i64 0), (.int .i64 0), (.bool false)], Item.box b14 [(.slice none 0 0), (.int .i64 0), (.int .i64 0)], Item.own v27 (x45.1 : ((List Int) × Int × Int)), Item.own v28 (x45.2.1 : (Int × Int × Int × Bool)), Item.own v24 (x43 : ((List Int) × Int × Int))]) (Fs := [F22, F21, F18, F19, F16]) ⟨F22, _, rfl, hv29, F21, _, rfl, hv28, F18, _, rfl, hv25, F19, _, rfl, hv26, F16, _, rfl, hv23, rfl⟩ (by simpa using hn16) (fun b h => (hb16 b (by simpa using h)).1)
                            have hC100 : Ctx [] w0 _ [Item.own v24 (x43 : ((List Int) × Int × Int)), Item.box b15 [(.int .i64 0), (.int .i64 0), (.int .i64 0), (.bool false)], Item.box b14 [(.slice none 0 0), (.int .i64 0), (.int .i64 0)], Item.own v27 (x45.1 : ((List Int) × Int × Int)), Item.own v28 (x45.2.1 : (Int × Int × Int × Bool)), Item.own v13 (x33.2.1 : (List Int)), Item.box b8 [v13, (.int .i64 x16), (.int .i64 x17)], Item.box b4 [(.int .i64 x6), (.int .i64 x7), (.int .i64 x8), (.bool x9)], Item.box b3 [v1, (.int .i64 x4), (.int .i64 x5)], Item.own v1 (x3 : (List Int)), Item.box b2 [(.int .i64 a2.1), (.int .i64 a2.2.1), (.int .i64 a2.2.2.1), (.bool a2.2.2.2)], Item.box b1 [u1, (.int .i64 a1.2.1), (.int .i64 a1.2.2)]] := hC99.front 4 rfl
                            obtain ⟨v31, rfl, hC101⟩ := st26_own hC100
                            have hC102 : Ctx [] w0 _ [Item.own v27 (x45.1 : ((List Int) × Int × Int)), Item.own v31 (x43.1 : (List Int)), Item.box b15 [(.int .i64 0), (.int .i64 0), (.int .i64 0), (.bool false)], Item.box b14 [(.slice none 0 0), (.int .i64 0), (.int .i64 0)], Item.own v28 (x45.2.1 : (Int × Int × Int × Bool)), Item.own v13 (x33.2.1 : (List Int)), Item.box b8 [v13, (.int .i64 x16), (.int .i64 x17)], Item.box b4 [(.int .i64 x6), (.int .i64 x7), (.int .i64 x8), (.bool x9)], Item.box b3 [v1, (.int .i64 x4), (.int .i64 x5)], Item.own v1 (x3 : (List Int)), Item.box b2 [(.int .i64 a2.1), (.int .i64 a2.2.1), (.int .i64 a2.2.2.1), (.bool a2.2.2.2)], Item.box b1 [u1, (.int .i64 a1.2.1), (.int .i64 a1.2.2)]] := hC101.front 3 rfl
                            obtain ⟨v32, rfl, hC103⟩ := st26_own hC102
                            have hC104 : Ctx [] w0 _ [Item.own v28 (x45.2.1 : (Int × Int × Int × Bool)), Item.own v32 (x45.1.1 : (List Int)), Item.own v31 (x43.1 : (List Int)), Item.box b15 [(.int .i64 0), (.int .i64 0), (.int .i64 0), (.bool false)], Item.box b14 [(.slice none 0 0), (.int .i64 0), (.int .i64 0)], Item.own v13 (x33.2.1 : (List Int)), Item.box b8 [v13, (.int .i64 x16), (.int .i64 x17)], Item.box b4 [(.int .i64 x6), (.int .i64 x7), (.int .i64 x8), (.bool x9)], Item.box b3 [v1, (.int .i64 x4), (.int .i64 x5)], Item.own v1 (x3 : (List Int)), Item.box b2 [(.int .i64 a2.1), (.int .i64 a2.2.1), (.int .i64 a2.2.2.1), (.bool a2.2.2.2)], Item.box b1 [u1, (.int .i64 a1.2.1), (.int .i64 a1.2.2)]] := hC103.front 4 rfl
                            obtain ⟨rfl, hC105⟩ := st35_own hC104
                            refine WA_take 8 rfl (by kernel_rfl) (by kernel_rfl) (by kernel_rfl) rfl (fl_extract rfl rfl) ?_
                            refine WL_extract rfl rfl rfl ?_
                            refine WL_nil ?_
                            refine WA_one 12 (by kernel_rfl) rfl ?_
                            refine WL_store_box_agg (cs' := [v32, (.int .i64 x45.1.2.1), (.int .i64 x45.1.2.2)]) (new := [v32, (.int .i64 x45.1.2.1), (.int .i64 x45.1.2.2)]) hC105 3 rfl rfl (by intro v hv; simp only [List.mem_cons, List.not_mem_nil, or_false] at hv; rcases hv with rfl | rfl | rfl; exact (ro_one (hC105.ro 0 rfl)); exact rfl; exact rfl) rfl Try.sizeOf26 rfl rfl (fun w51 hC106 => ?_)
                            try dsimp only [List.set] at hC106
                            refine WL_nil ?_
                            refine WA_one 13 (by kernel_rfl) rfl ?_
                            refine WL_store_box_agg (cs' := [(.int .i64 x45.2.1.1), (.int .i64 x45.2.1.2.1), (.int .i64 x45.2.1.2.2.1), (.bool x45.2.1.2.2.2)]) (new := [(.int .i64 x45.2.1.1), (.int .i64 x45.2.1.2.1), (.int .i64 x45.2.1.2.2.1), (.bool x45.2.1.2.2.2)]) hC106 2 rfl rfl (by intro v hv; simp only [List.mem_cons, List.not_mem_nil, or_false] at hv; rcases hv with rfl | rfl | rfl | rfl; exact rfl; exact rfl; exact rfl; exact rfl) rfl Try.sizeOf35 rfl rfl (fun w52 hC107 => ?_)
                            try dsimp only [List.set] at hC107
                            refine WL_nil ?_
                            refine WA_take 14 rfl (by kernel_rfl) (by kernel_rfl) (by kernel_rfl) rfl (fl_assign rfl) ?_
                            refine WL_assign rfl rfl ?_
                            refine WL_nil ?_
                            refine WA_done (by kernel_rfl) ?_
                            have hq18 := Option.some.inj hr21
                            subst hq18
                            have hC108 : Ctx [] w0 _ [Item.own v1 (x3 : (List Int)), Item.own v32 (x45.1.1 : (List Int)), Item.own v31 (x43.1 : (List Int)), Item.box b15 [(.int .i64 x45.2.1.1), (.int .i64 x45.2.1.2.1), (.int .i64 x45.2.1.2.2.1), (.bool x45.2.1.2.2.2)], Item.box b14 [v32, (.int .i64 x45.1.2.1), (.int .i64 x45.1.2.2)], Item.own v13 (x33.2.1 : (List Int)), Item.box b8 [v13, (.int .i64 x16), (.int .i64 x17)], Item.box b4 [(.int .i64 x6), (.int .i64 x7), (.int .i64 x8), (.bool x9)], Item.box b3 [v1, (.int .i64 x4), (.int .i64 x5)], Item.box b2 [(.int .i64 a2.1), (.int .i64 a2.2.1), (.int .i64 a2.2.2.1), (.bool a2.2.2.2)], Item.box b1 [u1, (.int .i64 a1.2.1), (.int .i64 a1.2.2)]] := hC107.front 8 rfl
                            have hC109 : Ctx [] w0 _ [Item.box b3 [v1, (.int .i64 x4), (.int .i64 x5)], Item.own v1 (x3 : (List Int)), Item.own v32 (x45.1.1 : (List Int)), Item.own v31 (x43.1 : (List Int)), Item.box b15 [(.int .i64 x45.2.1.1), (.int .i64 x45.2.1.2.1), (.int .i64 x45.2.1.2.2.1), (.bool x45.2.1.2.2.2)], Item.box b14 [v32, (.int .i64 x45.1.2.1), (.int .i64 x45.1.2.2)], Item.own v13 (x33.2.1 : (List Int)), Item.box b8 [v13, (.int .i64 x16), (.int .i64 x17)], Item.box b4 [(.int .i64 x6), (.int .i64 x7), (.int .i64 x8), (.bool x9)], Item.box b2 [(.int .i64 a2.1), (.int .i64 a2.2.1), (.int .i64 a2.2.2.1), (.bool a2.2.2.2)], Item.box b1 [u1, (.int .i64 a1.2.1), (.int .i64 a1.2.2)]] := hC108.front 8 rfl
                            have hC110 : Ctx [] w0 _ [Item.box b4 [(.int .i64 x6), (.int .i64 x7), (.int .i64 x8), (.bool x9)], Item.box b3 [v1, (.int .i64 x4), (.int .i64 x5)], Item.own v1 (x3 : (List Int)), Item.own v32 (x45.1.1 : (List Int)), Item.own v31 (x43.1 : (List Int)), Item.box b15 [(.int .i64 x45.2.1.1), (.int .i64 x45.2.1.2.1), (.int .i64 x45.2.1.2.2.1), (.bool x45.2.1.2.2.2)], Item.box b14 [v32, (.int .i64 x45.1.2.1), (.int .i64 x45.1.2.2)], Item.own v13 (x33.2.1 : (List Int)), Item.box b8 [v13, (.int .i64 x16), (.int .i64 x17)], Item.box b2 [(.int .i64 a2.1), (.int .i64 a2.2.1), (.int .i64 a2.2.2.1), (.bool a2.2.2.2)], Item.box b1 [u1, (.int .i64 a1.2.1), (.int .i64 a1.2.2)]] := hC109.front 8 rfl
                            have hC111 : Ctx [] w0 _ [Item.box b8 [v13, (.int .i64 x16), (.int .i64 x17)], Item.box b4 [(.int .i64 x6), (.int .i64 x7), (.int .i64 x8), (.bool x9)], Item.box b3 [v1, (.int .i64 x4), (.int .i64 x5)], Item.own v1 (x3 : (List Int)), Item.own v32 (x45.1.1 : (List Int)), Item.own v31 (x43.1 : (List Int)), Item.box b15 [(.int .i64 x45.2.1.1), (.int .i64 x45.2.1.2.1), (.int .i64 x45.2.1.2.2.1), (.bool x45.2.1.2.2.2)], Item.box b14 [v32, (.int .i64 x45.1.2.1), (.int .i64 x45.1.2.2)], Item.own v13 (x33.2.1 : (List Int)), Item.box b2 [(.int .i64 a2.1), (.int .i64 a2.2.1), (.int .i64 a2.2.2.1), (.bool a2.2.2.2)], Item.box b1 [u1, (.int .i64 a1.2.1), (.int .i64 a1.2.2)]] := hC110.front 8 rfl
                            have hC112 : Ctx [] w0 _ [Item.own v13 (x33.2.1 : (List Int)), Item.box b8 [v13, (.int .i64 x16), (.int .i64 x17)], Item.box b4 [(.int .i64 x6), (.int .i64 x7), (.int .i64 x8), (.bool x9)], Item.box b3 [v1, (.int .i64 x4), (.int .i64 x5)], Item.own v1 (x3 : (List Int)), Item.own v32 (x45.1.1 : (List Int)), Item.own v31 (x43.1 : (List Int)), Item.box b15 [(.int .i64 x45.2.1.1), (.int .i64 x45.2.1.2.1), (.int .i64 x45.2.1.2.2.1), (.bool x45.2.1.2.2.2)], Item.box b14 [v32, (.int .i64 x45.1.2.1), (.int .i64 x45.1.2.2)], Item.box b2 [(.int .i64 a2.1), (.int .i64 a2.2.1), (.int .i64 a2.2.2.1), (.bool a2.2.2.2)], Item.box b1 [u1, (.int .i64 a1.2.1), (.int .i64 a1.2.2)]] := hC111.front 8 rfl
                            have hC113 : Ctx [] w0 _ [Item.own v32 (x45.1.1 : (List Int)), Item.own v13 (x33.2.1 : (List Int)), Item.box b8 [v13, (.int .i64 x16), (.int .i64 x17)], Item.box b4 [(.int .i64 x6), (.int .i64 x7), (.int .i64 x8), (.bool x9)], Item.box b3 [v1, (.int .i64 x4), (.int .i64 x5)], Item.own v1 (x3 : (List Int)), Item.own v31 (x43.1 : (List Int)), Item.box b15 [(.int .i64 x45.2.1.1), (.int .i64 x45.2.1.2.1), (.int .i64 x45.2.1.2.2.1), (.bool x45.2.1.2.2.2)], Item.box b14 [v32, (.int .i64 x45.1.2.1), (.int .i64 x45.1.2.2)], Item.box b2 [(.int .i64 a2.1), (.int .i64 a2.2.1), (.int .i64 a2.2.2.1), (.bool a2.2.2.2)], Item.box b1 [u1, (.int .i64 a1.2.1), (.int .i64 a1.2.2)]] := hC112.front 5 rfl
                            have hC114 : Ctx [] w0 _ [Item.box b14 [v32, (.int .i64 x45.1.2.1), (.int .i64 x45.1.2.2)], Item.own v32 (x45.1.1 : (List Int)), Item.own v13 (x33.2.1 : (List Int)), Item.box b8 [v13, (.int .i64 x16), (.int .i64 x17)], Item.box b4 [(.int .i64 x6), (.int .i64 x7), (.int .i64 x8), (.bool x9)], Item.box b3 [v1, (.int .i64 x4), (.int .i64 x5)], Item.own v1 (x3 : (List Int)), Item.own v31 (x43.1 : (List Int)), Item.box b15 [(.int .i64 x45.2.1.1), (.int .i64 x45.2.1.2.1), (.int .i64 x45.2.1.2.2.1), (.bool x45.2.1.2.2.2)], Item.box b2 [(.int .i64 a2.1), (.int .i64 a2.2.1), (.int .i64 a2.2.2.1), (.bool a2.2.2.2)], Item.box b1 [u1, (.int .i64 a1.2.1), (.int .i64 a1.2.2)]] := hC113.front 8 rfl
                            have hC115 : Ctx [] w0 _ [Item.box b15 [(.int .i64 x45.2.1.1), (.int .i64 x45.2.1.2.1), (.int .i64 x45.2.1.2.2.1), (.bool x45.2.1.2.2.2)], Item.box b14 [v32, (.int .i64 x45.1.2.1), (.int .i64 x45.1.2.2)], Item.own v32 (x45.1.1 : (List Int)), Item.own v13 (x33.2.1 : (List Int)), Item.box b8 [v13, (.int .i64 x16), (.int .i64 x17)], Item.box b4 [(.int .i64 x6), (.int .i64 x7), (.int .i64 x8), (.bool x9)], Item.box b3 [v1, (.int .i64 x4), (.int .i64 x5)], Item.own v1 (x3 : (List Int)), Item.own v31 (x43.1 : (List Int)), Item.box b2 [(.int .i64 a2.1), (.int .i64 a2.2.1), (.int .i64 a2.2.2.1), (.bool a2.2.2.2)], Item.box b1 [u1, (.int .i64 a1.2.1), (.int .i64 a1.2.2)]] := hC114.front 8 rfl
                            have hC116 : Ctx [] w0 _ [Item.box b15 [(.int .i64 x45.2.1.1), (.int .i64 x45.2.1.2.1), (.int .i64 x45.2.1.2.2.1), (.bool x45.2.1.2.2.2)], Item.box b14 [v32, (.int .i64 x45.1.2.1), (.int .i64 x45.1.2.2)], Item.own v32 (x45.1.1 : (List Int)), Item.own v13 (x33.2.1 : (List Int)), Item.box b8 [v13, (.int .i64 x16), (.int .i64 x17)], Item.box b4 [(.int .i64 x6), (.int .i64 x7), (.int .i64 x8), (.bool x9)], Item.box b3 [v1, (.int .i64 x4), (.int .i64 x5)], Item.own v1 (x3 : (List Int))] := hC115.headN 8
                            refine nrm_sub (l' := [(8, (ptr b3 0)), (9, (ptr b4 0)), (10, (.bool x2)), (12, (ptr b8 0)), (16, (.int .i64 x33.1)), (18, (ptr b14 0)), (19, (ptr b15 0)), (20, (.bool x45.2.2))]) ⟨rfl, rfl, rfl, rfl, rfl, rfl, rfl, rfl, trivial⟩ ?_
                            exact ⟨x45.2.2, b14, v32, x45.1.1, x45.1.2.1, x45.1.2.2, b15, x45.2.1.1, x45.2.1.2.1, x45.2.1.2.2.1, x45.2.1.2.2.2, rfl, rfl, hC116⟩
                          · intro g' hg'
                            obtain rfl : g' = 5 := hg'
                            intro w50 hB43
                            refine AllE_cons rfl rfl rfl ?_
                            rintro _ _ ⟨rfl, rfl⟩
                            refine AllE_cons rfl rfl rfl ?_
                            intro v24 F16 hv23
                            refine AllE_cons rfl rfl rfl ?_
                            rintro _ _ ⟨rfl, rfl⟩
                            refine AllE_cons rfl rfl rfl ?_
                            rintro _ _ ⟨rfl, rfl⟩
                            refine AllE_cons rfl rfl rfl ?_
                            rintro _ _ ⟨v27, v28, v29, F18, F19, F20, rfl, rfl, hv25, hv26, hv27⟩
                            obtain ⟨rfl, rfl⟩ := val_bool hv27
                            refine AllE_cons rfl rfl rfl ?_
                            rintro _ _ ⟨rfl, rfl⟩
                            refine AllE_cons rfl rfl rfl ?_
                            rintro _ _ ⟨⟨_, hx13, hx14⟩, rfl⟩
                            obtain rfl := Value.tuple.inj hx13
                            obtain rfl := Option.some.inj (show (some v27 : Option Value) = some _ from hx14)
                            refine AllE_cons rfl rfl rfl ?_
                            rintro _ F21 ⟨b14, rfl, hv28⟩
                            refine AllE_cons rfl rfl rfl ?_
                            rintro _ F22 ⟨b15, rfl, hv29⟩
                            refine AllE_nil ?_
                            intro hn16 hb16
                            have hC99 := hC96.pushL hB43 (Bs := [Item.box b15 [(.int .i64 0), (.int .i64 0), (.int .i64 0), (.bool false)], Item.box b14 [(.slice none 0 0), (.int .i64 0), (.int .i64 0)], Item.own v27 (x45.1 : ((List Int) × Int × Int)), Item.own v28 (x45.2.1 : (Int × Int × Int × Bool)), Item.own v24 (x43 : ((List Int) × Int × Int))]) (Fs := [F22, F21, F18, F19, F16]) ⟨F22, _, rfl, hv29, F21, _, rfl, hv28, F18, _, rfl, hv25, F19, _, rfl, hv26, F16, _, rfl, hv23, rfl⟩ (by simpa using hn16) (fun b h => (hb16 b (by simpa using h)).1)
                            have hC100 : Ctx [] w0 _ [Item.own v24 (x43 : ((List Int) × Int × Int)), Item.box b15 [(.int .i64 0), (.int .i64 0), (.int .i64 0), (.bool false)], Item.box b14 [(.slice none 0 0), (.int .i64 0), (.int .i64 0)], Item.own v27 (x45.1 : ((List Int) × Int × Int)), Item.own v28 (x45.2.1 : (Int × Int × Int × Bool)), Item.own v13 (x33.2.1 : (List Int)), Item.box b8 [v13, (.int .i64 x16), (.int .i64 x17)], Item.box b4 [(.int .i64 x6), (.int .i64 x7), (.int .i64 x8), (.bool x9)], Item.box b3 [v1, (.int .i64 x4), (.int .i64 x5)], Item.own v1 (x3 : (List Int)), Item.box b2 [(.int .i64 a2.1), (.int .i64 a2.2.1), (.int .i64 a2.2.2.1), (.bool a2.2.2.2)], Item.box b1 [u1, (.int .i64 a1.2.1), (.int .i64 a1.2.2)]] := hC99.front 4 rfl
                            obtain ⟨v31, rfl, hC101⟩ := st26_own hC100
                            have hC102 : Ctx [] w0 _ [Item.own v27 (x45.1 : ((List Int) × Int × Int)), Item.own v31 (x43.1 : (List Int)), Item.box b15 [(.int .i64 0), (.int .i64 0), (.int .i64 0), (.bool false)], Item.box b14 [(.slice none 0 0), (.int .i64 0), (.int .i64 0)], Item.own v28 (x45.2.1 : (Int × Int × Int × Bool)), Item.own v13 (x33.2.1 : (List Int)), Item.box b8 [v13, (.int .i64 x16), (.int .i64 x17)], Item.box b4 [(.int .i64 x6), (.int .i64 x7), (.int .i64 x8), (.bool x9)], Item.box b3 [v1, (.int .i64 x4), (.int .i64 x5)], Item.own v1 (x3 : (List Int)), Item.box b2 [(.int .i64 a2.1), (.int .i64 a2.2.1), (.int .i64 a2.2.2.1), (.bool a2.2.2.2)], Item.box b1 [u1, (.int .i64 a1.2.1), (.int .i64 a1.2.2)]] := hC101.front 3 rfl
                            obtain ⟨v32, rfl, hC103⟩ := st26_own hC102
                            have hC104 : Ctx [] w0 _ [Item.own v28 (x45.2.1 : (Int × Int × Int × Bool)), Item.own v32 (x45.1.1 : (List Int)), Item.own v31 (x43.1 : (List Int)), Item.box b15 [(.int .i64 0), (.int .i64 0), (.int .i64 0), (.bool false)], Item.box b14 [(.slice none 0 0), (.int .i64 0), (.int .i64 0)], Item.own v13 (x33.2.1 : (List Int)), Item.box b8 [v13, (.int .i64 x16), (.int .i64 x17)], Item.box b4 [(.int .i64 x6), (.int .i64 x7), (.int .i64 x8), (.bool x9)], Item.box b3 [v1, (.int .i64 x4), (.int .i64 x5)], Item.own v1 (x3 : (List Int)), Item.box b2 [(.int .i64 a2.1), (.int .i64 a2.2.1), (.int .i64 a2.2.2.1), (.bool a2.2.2.2)], Item.box b1 [u1, (.int .i64 a1.2.1), (.int .i64 a1.2.2)]] := hC103.front 4 rfl
                            obtain ⟨rfl, hC105⟩ := st35_own hC104
                            refine WA_take 8 rfl (by kernel_rfl) (by kernel_rfl) (by kernel_rfl) rfl (fl_extract rfl rfl) ?_
                            refine WL_extract rfl rfl rfl ?_
                            refine WL_nil ?_
                            refine WA_take 9 rfl (by kernel_rfl) (by kernel_rfl) (by kernel_rfl) rfl (fl_extract rfl rfl) ?_
                            refine WL_extract rfl rfl rfl ?_
                            refine WL_nil ?_
                            refine WA_one 12 (by kernel_rfl) rfl ?_
                            refine WL_store_box_agg (cs' := [v32, (.int .i64 x45.1.2.1), (.int .i64 x45.1.2.2)]) (new := [v32, (.int .i64 x45.1.2.1), (.int .i64 x45.1.2.2)]) hC105 3 rfl rfl (by intro v hv; simp only [List.mem_cons, List.not_mem_nil, or_false] at hv; rcases hv with rfl | rfl | rfl; exact (ro_one (hC105.ro 0 rfl)); exact rfl; exact rfl) rfl Try.sizeOf26 rfl rfl (fun w51 hC106 => ?_)
                            try dsimp only [List.set] at hC106
                            refine WL_nil ?_
                            refine WA_one 13 (by kernel_rfl) rfl ?_
                            refine WL_store_box_agg (cs' := [(.int .i64 x45.2.1.1), (.int .i64 x45.2.1.2.1), (.int .i64 x45.2.1.2.2.1), (.bool x45.2.1.2.2.2)]) (new := [(.int .i64 x45.2.1.1), (.int .i64 x45.2.1.2.1), (.int .i64 x45.2.1.2.2.1), (.bool x45.2.1.2.2.2)]) hC106 2 rfl rfl (by intro v hv; simp only [List.mem_cons, List.not_mem_nil, or_false] at hv; rcases hv with rfl | rfl | rfl | rfl; exact rfl; exact rfl; exact rfl; exact rfl) rfl Try.sizeOf35 rfl rfl (fun w52 hC107 => ?_)
                            try dsimp only [List.set] at hC107
                            refine WL_nil ?_
                            refine WA_take 14 rfl (by kernel_rfl) (by kernel_rfl) (by kernel_rfl) rfl (fl_assign rfl) ?_
                            refine WL_assign rfl rfl ?_
                            refine WL_nil ?_
                            refine WA_done (by kernel_rfl) ?_
                            have hq18 := Option.some.inj hr21
                            subst hq18
                            have hC108 : Ctx [] w0 _ [Item.own v1 (x3 : (List Int)), Item.own v32 (x45.1.1 : (List Int)), Item.own v31 (x43.1 : (List Int)), Item.box b15 [(.int .i64 x45.2.1.1), (.int .i64 x45.2.1.2.1), (.int .i64 x45.2.1.2.2.1), (.bool x45.2.1.2.2.2)], Item.box b14 [v32, (.int .i64 x45.1.2.1), (.int .i64 x45.1.2.2)], Item.own v13 (x33.2.1 : (List Int)), Item.box b8 [v13, (.int .i64 x16), (.int .i64 x17)], Item.box b4 [(.int .i64 x6), (.int .i64 x7), (.int .i64 x8), (.bool x9)], Item.box b3 [v1, (.int .i64 x4), (.int .i64 x5)], Item.box b2 [(.int .i64 a2.1), (.int .i64 a2.2.1), (.int .i64 a2.2.2.1), (.bool a2.2.2.2)], Item.box b1 [u1, (.int .i64 a1.2.1), (.int .i64 a1.2.2)]] := hC107.front 8 rfl
                            have hC109 : Ctx [] w0 _ [Item.box b3 [v1, (.int .i64 x4), (.int .i64 x5)], Item.own v1 (x3 : (List Int)), Item.own v32 (x45.1.1 : (List Int)), Item.own v31 (x43.1 : (List Int)), Item.box b15 [(.int .i64 x45.2.1.1), (.int .i64 x45.2.1.2.1), (.int .i64 x45.2.1.2.2.1), (.bool x45.2.1.2.2.2)], Item.box b14 [v32, (.int .i64 x45.1.2.1), (.int .i64 x45.1.2.2)], Item.own v13 (x33.2.1 : (List Int)), Item.box b8 [v13, (.int .i64 x16), (.int .i64 x17)], Item.box b4 [(.int .i64 x6), (.int .i64 x7), (.int .i64 x8), (.bool x9)], Item.box b2 [(.int .i64 a2.1), (.int .i64 a2.2.1), (.int .i64 a2.2.2.1), (.bool a2.2.2.2)], Item.box b1 [u1, (.int .i64 a1.2.1), (.int .i64 a1.2.2)]] := hC108.front 8 rfl
                            have hC110 : Ctx [] w0 _ [Item.box b4 [(.int .i64 x6), (.int .i64 x7), (.int .i64 x8), (.bool x9)], Item.box b3 [v1, (.int .i64 x4), (.int .i64 x5)], Item.own v1 (x3 : (List Int)), Item.own v32 (x45.1.1 : (List Int)), Item.own v31 (x43.1 : (List Int)), Item.box b15 [(.int .i64 x45.2.1.1), (.int .i64 x45.2.1.2.1), (.int .i64 x45.2.1.2.2.1), (.bool x45.2.1.2.2.2)], Item.box b14 [v32, (.int .i64 x45.1.2.1), (.int .i64 x45.1.2.2)], Item.own v13 (x33.2.1 : (List Int)), Item.box b8 [v13, (.int .i64 x16), (.int .i64 x17)], Item.box b2 [(.int .i64 a2.1), (.int .i64 a2.2.1), (.int .i64 a2.2.2.1), (.bool a2.2.2.2)], Item.box b1 [u1, (.int .i64 a1.2.1), (.int .i64 a1.2.2)]] := hC109.front 8 rfl
                            have hC111 : Ctx [] w0 _ [Item.box b8 [v13, (.int .i64 x16), (.int .i64 x17)], Item.box b4 [(.int .i64 x6), (.int .i64 x7), (.int .i64 x8), (.bool x9)], Item.box b3 [v1, (.int .i64 x4), (.int .i64 x5)], Item.own v1 (x3 : (List Int)), Item.own v32 (x45.1.1 : (List Int)), Item.own v31 (x43.1 : (List Int)), Item.box b15 [(.int .i64 x45.2.1.1), (.int .i64 x45.2.1.2.1), (.int .i64 x45.2.1.2.2.1), (.bool x45.2.1.2.2.2)], Item.box b14 [v32, (.int .i64 x45.1.2.1), (.int .i64 x45.1.2.2)], Item.own v13 (x33.2.1 : (List Int)), Item.box b2 [(.int .i64 a2.1), (.int .i64 a2.2.1), (.int .i64 a2.2.2.1), (.bool a2.2.2.2)], Item.box b1 [u1, (.int .i64 a1.2.1), (.int .i64 a1.2.2)]] := hC110.front 8 rfl
                            have hC112 : Ctx [] w0 _ [Item.own v13 (x33.2.1 : (List Int)), Item.box b8 [v13, (.int .i64 x16), (.int .i64 x17)], Item.box b4 [(.int .i64 x6), (.int .i64 x7), (.int .i64 x8), (.bool x9)], Item.box b3 [v1, (.int .i64 x4), (.int .i64 x5)], Item.own v1 (x3 : (List Int)), Item.own v32 (x45.1.1 : (List Int)), Item.own v31 (x43.1 : (List Int)), Item.box b15 [(.int .i64 x45.2.1.1), (.int .i64 x45.2.1.2.1), (.int .i64 x45.2.1.2.2.1), (.bool x45.2.1.2.2.2)], Item.box b14 [v32, (.int .i64 x45.1.2.1), (.int .i64 x45.1.2.2)], Item.box b2 [(.int .i64 a2.1), (.int .i64 a2.2.1), (.int .i64 a2.2.2.1), (.bool a2.2.2.2)], Item.box b1 [u1, (.int .i64 a1.2.1), (.int .i64 a1.2.2)]] := hC111.front 8 rfl
                            have hC113 : Ctx [] w0 _ [Item.own v32 (x45.1.1 : (List Int)), Item.own v13 (x33.2.1 : (List Int)), Item.box b8 [v13, (.int .i64 x16), (.int .i64 x17)], Item.box b4 [(.int .i64 x6), (.int .i64 x7), (.int .i64 x8), (.bool x9)], Item.box b3 [v1, (.int .i64 x4), (.int .i64 x5)], Item.own v1 (x3 : (List Int)), Item.own v31 (x43.1 : (List Int)), Item.box b15 [(.int .i64 x45.2.1.1), (.int .i64 x45.2.1.2.1), (.int .i64 x45.2.1.2.2.1), (.bool x45.2.1.2.2.2)], Item.box b14 [v32, (.int .i64 x45.1.2.1), (.int .i64 x45.1.2.2)], Item.box b2 [(.int .i64 a2.1), (.int .i64 a2.2.1), (.int .i64 a2.2.2.1), (.bool a2.2.2.2)], Item.box b1 [u1, (.int .i64 a1.2.1), (.int .i64 a1.2.2)]] := hC112.front 5 rfl
                            have hC114 : Ctx [] w0 _ [Item.box b14 [v32, (.int .i64 x45.1.2.1), (.int .i64 x45.1.2.2)], Item.own v32 (x45.1.1 : (List Int)), Item.own v13 (x33.2.1 : (List Int)), Item.box b8 [v13, (.int .i64 x16), (.int .i64 x17)], Item.box b4 [(.int .i64 x6), (.int .i64 x7), (.int .i64 x8), (.bool x9)], Item.box b3 [v1, (.int .i64 x4), (.int .i64 x5)], Item.own v1 (x3 : (List Int)), Item.own v31 (x43.1 : (List Int)), Item.box b15 [(.int .i64 x45.2.1.1), (.int .i64 x45.2.1.2.1), (.int .i64 x45.2.1.2.2.1), (.bool x45.2.1.2.2.2)], Item.box b2 [(.int .i64 a2.1), (.int .i64 a2.2.1), (.int .i64 a2.2.2.1), (.bool a2.2.2.2)], Item.box b1 [u1, (.int .i64 a1.2.1), (.int .i64 a1.2.2)]] := hC113.front 8 rfl
                            have hC115 : Ctx [] w0 _ [Item.box b15 [(.int .i64 x45.2.1.1), (.int .i64 x45.2.1.2.1), (.int .i64 x45.2.1.2.2.1), (.bool x45.2.1.2.2.2)], Item.box b14 [v32, (.int .i64 x45.1.2.1), (.int .i64 x45.1.2.2)], Item.own v32 (x45.1.1 : (List Int)), Item.own v13 (x33.2.1 : (List Int)), Item.box b8 [v13, (.int .i64 x16), (.int .i64 x17)], Item.box b4 [(.int .i64 x6), (.int .i64 x7), (.int .i64 x8), (.bool x9)], Item.box b3 [v1, (.int .i64 x4), (.int .i64 x5)], Item.own v1 (x3 : (List Int)), Item.own v31 (x43.1 : (List Int)), Item.box b2 [(.int .i64 a2.1), (.int .i64 a2.2.1), (.int .i64 a2.2.2.1), (.bool a2.2.2.2)], Item.box b1 [u1, (.int .i64 a1.2.1), (.int .i64 a1.2.2)]] := hC114.front 8 rfl
                            have hC116 : Ctx [] w0 _ [Item.box b15 [(.int .i64 x45.2.1.1), (.int .i64 x45.2.1.2.1), (.int .i64 x45.2.1.2.2.1), (.bool x45.2.1.2.2.2)], Item.box b14 [v32, (.int .i64 x45.1.2.1), (.int .i64 x45.1.2.2)], Item.own v32 (x45.1.1 : (List Int)), Item.own v13 (x33.2.1 : (List Int)), Item.box b8 [v13, (.int .i64 x16), (.int .i64 x17)], Item.box b4 [(.int .i64 x6), (.int .i64 x7), (.int .i64 x8), (.bool x9)], Item.box b3 [v1, (.int .i64 x4), (.int .i64 x5)], Item.own v1 (x3 : (List Int))] := hC115.headN 8
                            refine nrm_sub (l' := [(8, (ptr b3 0)), (9, (ptr b4 0)), (10, (.bool x2)), (12, (ptr b8 0)), (16, (.int .i64 x33.1)), (18, (ptr b14 0)), (19, (ptr b15 0)), (20, (.bool x45.2.2))]) ⟨rfl, rfl, rfl, rfl, rfl, rfl, rfl, rfl, trivial⟩ ?_
                            exact ⟨x45.2.2, b14, v32, x45.1.1, x45.1.2.1, x45.1.2.2, b15, x45.2.1.1, x45.2.1.2.1, x45.2.1.2.2.1, x45.2.1.2.2.2, rfl, rfl, hC116⟩
                        · rintro _ w42 ⟨x35, b12, v23, x36, x37, x38, b13, x39, x40, x41, x42, rfl, rfl, hC95⟩
                          try dsimp only at hF
                          refine W_seq ?_
                          obtain ⟨r6, hr25, hF⟩ := bind_some hF
                          refine W_cut (fun l w => ∃ x46 : Bool, x46 = r6 ∧ l = [(12, (ptr b8 0)), (16, (.int .i64 x33.1)), (124, (.bool x46))] ∧ Below w42.heap.size w42 w ∧ Ctx [] w0 w [Item.own v13 (x33.2.1 : (List Int)), Item.box b8 [v13, (.int .i64 x16), (.int .i64 x17)]]) ?_ ?_
                          · refine W_reg ?_
                            refine WL_load_box_agg [v23, (.int .i64 x37), (.int .i64 x38)] hC95 1 rfl rfl rfl Try.isAgg26 Try.sizeOf26 rfl rfl ?_
                            refine WL_load_box_agg [v1, (.int .i64 x4), (.int .i64 x5)] hC95 6 rfl rfl rfl Try.isAgg26 Try.sizeOf26 rfl rfl ?_
                            obtain ⟨x47, hr26, hr25⟩ := bind_some hr25
                            refine WL_call Try.call19 rfl rfl (c_Q_eqLedger (x36, x37, x38) v23 ((hC95.ro 2 rfl).now (Keep.refl _ _)) (x3, x4, x5) v1 ((hC95.ro 7 rfl).now (Keep.refl _ _)) x47 hr26) ?_
                            intro _ w54 hv30
                            obtain ⟨rfl, hB45⟩ := res_bool hv30
                            have hC118 := hC95.grow hB45
                            refine WL_not rfl rfl ?_
                            refine WL_move rfl rfl ?_
                            refine WL_fork (fun hc12 => ?_) (fun hc12 => ?_)
                            · replace hr25 := ite_t hr25 hc12
                              refine WL_guard_skip rfl rfl (by simp) rfl ?_
                              refine WL_guard_skip rfl rfl (by simp) rfl ?_
                              refine WL_guard_skip rfl rfl (by simp) rfl ?_
                              refine WL_guard_skip rfl rfl (by simp) rfl ?_
                              refine WL_pick_t rfl rfl rfl ?_
                              refine WL_move rfl rfl ?_
                              refine WL_guard_skip rfl rfl (by simp) rfl ?_
                              refine WL_guard_skip rfl rfl (by simp) rfl ?_
                              refine WL_guard_skip rfl rfl (by simp) rfl ?_
                              refine WL_pick_t rfl rfl rfl ?_
                              refine WL_nil ?_
                              have hq19 := Option.some.inj hr25
                              subst hq19
                              have hC119 : Ctx [] w0 _ [Item.box b8 [v13, (.int .i64 x16), (.int .i64 x17)], Item.box b13 [(.int .i64 x39), (.int .i64 x40), (.int .i64 x41), (.bool x42)], Item.box b12 [v23, (.int .i64 x37), (.int .i64 x38)], Item.own v23 (x36 : (List Int)), Item.own v13 (x33.2.1 : (List Int)), Item.box b4 [(.int .i64 x6), (.int .i64 x7), (.int .i64 x8), (.bool x9)], Item.box b3 [v1, (.int .i64 x4), (.int .i64 x5)], Item.own v1 (x3 : (List Int))] := hC118.front 4 rfl
                              have hC120 : Ctx [] w0 _ [Item.own v13 (x33.2.1 : (List Int)), Item.box b8 [v13, (.int .i64 x16), (.int .i64 x17)], Item.box b13 [(.int .i64 x39), (.int .i64 x40), (.int .i64 x41), (.bool x42)], Item.box b12 [v23, (.int .i64 x37), (.int .i64 x38)], Item.own v23 (x36 : (List Int)), Item.box b4 [(.int .i64 x6), (.int .i64 x7), (.int .i64 x8), (.bool x9)], Item.box b3 [v1, (.int .i64 x4), (.int .i64 x5)], Item.own v1 (x3 : (List Int))] := hC119.front 4 rfl
                              have hC121 : Ctx [] w0 _ [Item.own v13 (x33.2.1 : (List Int)), Item.box b8 [v13, (.int .i64 x16), (.int .i64 x17)]] := hC120.headN 2
                              refine nrm_sub (l' := [(12, (ptr b8 0)), (16, (.int .i64 x33.1)), (124, (.bool true))]) ⟨rfl, rfl, rfl, trivial⟩ ?_
                              exact ⟨true, rfl, rfl, (Keep.of hB45).below, hC121⟩
                            · replace hr25 := ite_f hr25 hc12
                              refine WL_guard rfl rfl ?_
                              refine WL_load_box_agg [(.int .i64 x39), (.int .i64 x40), (.int .i64 x41), (.bool x42)] hC118 0 rfl rfl rfl Try.isAgg35 Try.sizeOf35 rfl rfl ?_
                              refine WL_guard rfl rfl ?_
                              refine WL_load_box_agg [(.int .i64 x6), (.int .i64 x7), (.int .i64 x8), (.bool x9)] hC118 5 rfl rfl rfl Try.isAgg35 Try.sizeOf35 rfl rfl ?_
                              obtain ⟨x48, hr27, hr25⟩ := bind_some hr25
                              refine WL_guard rfl rfl ?_
                              refine WL_call Try.call25 rfl rfl (c_Q_eqCall (x39, x40, x41, x42) (x6, x7, x8, x9) x48 hr27) ?_
                              intro _ w55 hv31
                              obtain ⟨rfl, hB46⟩ := res_bool hv31
                              have hC122 := hC118.grow hB46
                              refine WL_guard rfl rfl ?_
                              refine WL_not rfl rfl ?_
                              refine WL_pick_f rfl rfl rfl ?_
                              refine WL_move rfl rfl ?_
                              refine WL_fork (fun hc13 => ?_) (fun hc13 => ?_)
                              · replace hr25 := ite_t hr25 hc13
                                refine WL_guard_skip rfl rfl (by simp) rfl ?_
                                refine WL_guard_skip rfl rfl (by simp) rfl ?_
                                refine WL_guard_skip rfl rfl (by simp) rfl ?_
                                refine WL_pick_t rfl rfl rfl ?_
                                refine WL_nil ?_
                                have hq20 := Option.some.inj hr25
                                subst hq20
                                have hC123 : Ctx [] w0 _ [Item.box b8 [v13, (.int .i64 x16), (.int .i64 x17)], Item.box b13 [(.int .i64 x39), (.int .i64 x40), (.int .i64 x41), (.bool x42)], Item.box b12 [v23, (.int .i64 x37), (.int .i64 x38)], Item.own v23 (x36 : (List Int)), Item.own v13 (x33.2.1 : (List Int)), Item.box b4 [(.int .i64 x6), (.int .i64 x7), (.int .i64 x8), (.bool x9)], Item.box b3 [v1, (.int .i64 x4), (.int .i64 x5)], Item.own v1 (x3 : (List Int))] := hC122.front 4 rfl
                                have hC124 : Ctx [] w0 _ [Item.own v13 (x33.2.1 : (List Int)), Item.box b8 [v13, (.int .i64 x16), (.int .i64 x17)], Item.box b13 [(.int .i64 x39), (.int .i64 x40), (.int .i64 x41), (.bool x42)], Item.box b12 [v23, (.int .i64 x37), (.int .i64 x38)], Item.own v23 (x36 : (List Int)), Item.box b4 [(.int .i64 x6), (.int .i64 x7), (.int .i64 x8), (.bool x9)], Item.box b3 [v1, (.int .i64 x4), (.int .i64 x5)], Item.own v1 (x3 : (List Int))] := hC123.front 4 rfl
                                have hC125 : Ctx [] w0 _ [Item.own v13 (x33.2.1 : (List Int)), Item.box b8 [v13, (.int .i64 x16), (.int .i64 x17)]] := hC124.headN 2
                                refine nrm_sub (l' := [(12, (ptr b8 0)), (16, (.int .i64 x33.1)), (124, (.bool true))]) ⟨rfl, rfl, rfl, trivial⟩ ?_
                                exact ⟨true, rfl, rfl, ((Keep.of hB45).then hB46).below, hC125⟩
                              · replace hr25 := ite_f hr25 hc13
                                refine WL_guard rfl rfl ?_
                                refine WL_move rfl rfl ?_
                                refine WL_guard rfl rfl ?_
                                refine WL_move rfl rfl ?_
                                refine WL_guard rfl rfl ?_
                                refine WL_bool_neq Try.underlying4 rfl rfl rfl ?_
                                refine WL_pick_f rfl rfl rfl ?_
                                refine WL_nil ?_
                                have hq21 := Option.some.inj hr25
                                subst hq21
                                have hC126 : Ctx [] w0 _ [Item.box b8 [v13, (.int .i64 x16), (.int .i64 x17)], Item.box b13 [(.int .i64 x39), (.int .i64 x40), (.int .i64 x41), (.bool x42)], Item.box b12 [v23, (.int .i64 x37), (.int .i64 x38)], Item.own v23 (x36 : (List Int)), Item.own v13 (x33.2.1 : (List Int)), Item.box b4 [(.int .i64 x6), (.int .i64 x7), (.int .i64 x8), (.bool x9)], Item.box b3 [v1, (.int .i64 x4), (.int .i64 x5)], Item.own v1 (x3 : (List Int))] := hC122.front 4 rfl
                                have hC127 : Ctx [] w0 _ [Item.own v13 (x33.2.1 : (List Int)), Item.box b8 [v13, (.int .i64 x16), (.int .i64 x17)], Item.box b13 [(.int .i64 x39), (.int .i64 x40), (.int .i64 x41), (.bool x42)], Item.box b12 [v23, (.int .i64 x37), (.int .i64 x38)], Item.own v23 (x36 : (List Int)), Item.box b4 [(.int .i64 x6), (.int .i64 x7), (.int .i64 x8), (.bool x9)], Item.box b3 [v1, (.int .i64 x4), (.int .i64 x5)], Item.own v1 (x3 : (List Int))] := hC126.front 4 rfl
                                have hC128 : Ctx [] w0 _ [Item.own v13 (x33.2.1 : (List Int)), Item.box b8 [v13, (.int .i64 x16), (.int .i64 x17)]] := hC127.headN 2
                                refine nrm_sub (l' := [(12, (ptr b8 0)), (16, (.int .i64 x33.1)), (124, (.bool (!decide (x35 = x2))))]) ⟨rfl, rfl, rfl, trivial⟩ ?_
                                exact ⟨(!decide (x35 = x2)), rfl, rfl, ((Keep.of hB45).then hB46).below, hC128⟩
                          · rintro _ w53 ⟨x46, rfl, rfl, hB44, hC117⟩
                            try dsimp only at hF
                            refine W_cond rfl (fun hc14 => ?_) (fun hc14 => ?_)
                            · replace hF := ite_t hF hc14
                              refine W_seq_reg ?_
                              refine WL_assign rfl rfl ?_
                              refine WL_nil ?_
                              refine W_ret ?_
                              refine nrm_ret ?_
                              have hq22 := Option.some.inj hF
                              subst hq22
                              refine fn_ret1 rfl rfl ?_
                              exact ⟨_, rfl, bool_res hC117 _⟩
                            · replace hF := ite_f hF hc14
                              refine W_skip ?_
                              refine nrm_normal ?_
                              refine W_seq_reg ?_
                              refine WL_assign rfl rfl ?_
                              refine WL_nil ?_
                              refine W_seq_reg ?_
                              refine WL_load_box_agg [v13, (.int .i64 x16), (.int .i64 x17)] hC117 1 rfl rfl rfl Try.isAgg26 Try.sizeOf26 rfl rfl ?_
                              refine WL_move rfl rfl ?_
                              obtain ⟨x49, hr28, hF⟩ := bind_some hF
                              refine WL_call Try.call21 rfl rfl (c_Q_heldLedger (x33.2.1, x16, x17) v13 ((hC117.ro 0 rfl).now (Keep.refl _ _)) 1 x49 hr28) ?_
                              intro _ w56 hv32
                              obtain ⟨rfl, hB47⟩ := res_int hv32
                              have hC129 := hC117.grow hB47
                              refine WL_assign rfl rfl ?_
                              refine WL_nil ?_
                              refine W_seq ?_
                              refine W_seq_reg ?_
                              refine WL_move rfl rfl ?_
                              refine WL_lss rfl rfl rfl ?_
                              refine WL_nil ?_
                              refine W_cond rfl (fun hc15 => ?_) (fun hc15 => ?_)
                              · replace hF := ite_t hF hc15
                                refine W_seq_reg ?_
                                refine WL_assign rfl rfl ?_
                                refine WL_nil ?_
                                refine W_ret ?_
                                refine nrm_ret ?_
                                have hq23 := Option.some.inj hF
                                subst hq23
                                refine fn_ret1 rfl rfl ?_
                                exact ⟨_, rfl, bool_res hC129 _⟩
                              · replace hF := ite_f hF hc15
                                refine W_skip ?_
                                refine nrm_normal ?_
                                refine W_seq ?_
                                refine W_seq_reg ?_
                                refine WL_move rfl rfl ?_
                                refine WL_move rfl rfl ?_
                                refine WL_neq rfl rfl rfl ?_
                                refine WL_nil ?_
                                refine W_cond rfl (fun hc16 => ?_) (fun hc16 => ?_)
                                · replace hF := ite_t hF hc16
                                  refine W_seq_reg ?_
                                  refine WL_assign rfl rfl ?_
                                  refine WL_nil ?_
                                  refine W_ret ?_
                                  refine nrm_ret ?_
                                  have hq24 := Option.some.inj hF
                                  subst hq24
                                  refine fn_ret1 rfl rfl ?_
                                  exact ⟨_, rfl, bool_res hC129 _⟩
                                · replace hF := ite_f hF hc16
                                  refine W_skip ?_
                                  refine nrm_normal ?_
                                  refine W_seq_reg ?_
                                  refine WL_assign rfl rfl ?_
                                  refine WL_nil ?_
                                  refine W_ret ?_
                                  have hq25 := Option.some.inj hF
                                  subst hq25
                                  refine fn_ret1 rfl rfl ?_
                                  exact ⟨_, rfl, bool_res hC129 _⟩

end Go.Gx.Px
