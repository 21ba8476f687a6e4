/- The contracts of the Go functions against the pure functions, printed by program. Conditions: each says them. -/
import Derived.Test.YtnjjpmilcajmkaaC3
set_option linter.unusedVariables false
set_option linter.unusedSimpArgs false
set_option maxRecDepth 100000
set_option maxHeartbeats 4000000
namespace Go.Gx.Px
open Go.Proofs Go.RowKit

theorem c_Q_FnExactRunCalls {w0 : World} (a1 : ((List Int) × Int × Int)) (u1 : Value) (g1 : RO [] w0 u1 a1.1) (a2 : (List (Int × Int × Int × Bool))) (u2 : Value) (g2 : RO [] w0 u2 a2) (a3 : (List Int)) (u3 : Value) (g3 : RO [] w0 u3 a3) (rr : Bool) (hF : Q.FnExactRunCalls a1 a2 a3 = some rr) :
    Calls Try.prog 8 [(.agg #[u1, (.int .i64 a1.2.1), (.int .i64 a1.2.2)]), u2, u3].toArray w0 fun e w' => ∃ v, e = .returned v ∧ Res w0 rr v w' := by
  refine calls_of_W Try.func8 rfl rfl ?_
  have hC0 := Ctx.start w0
  unfold Q.FnExactRunCalls at hF
  refine W_seq_reg ?_
  refine WL_box (cs := [u1, (.int .i64 a1.2.1), (.int .i64 a1.2.2)]) hC0 rfl rfl rfl (fun b1 w1 hC1 hB1 => ?_)
  refine WL_assign rfl rfl ?_
  refine WL_nil ?_
  refine W_seq ?_
  refine W_seq_reg ?_
  refine WL_move rfl rfl ?_
  refine WL_len Try.underlying22 g3 rfl rfl ?_
  refine WL_gtr rfl rfl rfl ?_
  refine WL_nil ?_
  refine W_cond rfl (fun hc1 => ?_) (fun hc1 => ?_)
  · replace hF := ite_t hF hc1
    refine W_seq_reg ?_
    refine WL_assign rfl rfl ?_
    refine WL_nil ?_
    refine W_ret ?_
    refine nrm_ret ?_
    have hq1 := Option.some.inj hF
    subst hq1
    refine fn_ret1 rfl rfl ?_
    exact ⟨_, rfl, bool_res hC1 _⟩
  · replace hF := ite_f hF hc1
    refine W_skip ?_
    refine nrm_normal ?_
    refine W_seq_reg ?_
    refine WL_assign rfl rfl ?_
    refine WL_nil ?_
    refine W_seq_reg ?_
    refine WL_load_box_agg [u1, (.int .i64 a1.2.1), (.int .i64 a1.2.2)] hC1 0 rfl rfl rfl Try.isAgg24 Try.sizeOf24 rfl rfl ?_
    refine WL_move rfl rfl ?_
    obtain ⟨x1, hr1, hF⟩ := bind_some hF
    refine WL_call Try.call15 rfl rfl (c_Q_szLedger (a1.1, a1.2.1, a1.2.2) u1 (g1.now hC1.keep) 1048576 x1 hr1) ?_
    intro _ w2 hv1
    obtain ⟨rfl, hB2⟩ := res_int hv1
    have hC2 := hC1.grow hB2
    refine WL_assign rfl rfl ?_
    refine WL_nil ?_
    refine W_seq ?_
    refine W_seq_reg ?_
    refine WL_move rfl rfl ?_
    refine WL_lss rfl rfl rfl ?_
    refine WL_nil ?_
    refine W_cond rfl (fun hc2 => ?_) (fun hc2 => ?_)
    · replace hF := ite_t hF hc2
      refine W_seq_reg ?_
      refine WL_assign rfl rfl ?_
      refine WL_nil ?_
      refine W_ret ?_
      refine nrm_ret ?_
      have hq2 := Option.some.inj hF
      subst hq2
      refine fn_ret1 rfl rfl ?_
      exact ⟨_, rfl, bool_res hC2 _⟩
    · replace hF := ite_f hF hc2
      refine W_skip ?_
      refine nrm_normal ?_
      refine W_seq_reg ?_
      refine WL_move rfl rfl ?_
      refine WL_move rfl rfl ?_
      obtain ⟨x2, hr2, hF⟩ := bind_some hF
      refine WL_call Try.call46 rfl rfl (c_Q_szCallS a2 u2 (g2.now hC2.keep) x1 x2 hr2) ?_
      intro _ w3 hv2
      obtain ⟨rfl, hB3⟩ := res_int hv2
      have hC3 := hC2.grow hB3
      refine WL_assign rfl rfl ?_
      refine WL_nil ?_
      refine W_seq ?_
      refine W_seq_reg ?_
      refine WL_move rfl rfl ?_
      refine WL_lss rfl rfl rfl ?_
      refine WL_nil ?_
      refine W_cond rfl (fun hc3 => ?_) (fun hc3 => ?_)
      · replace hF := ite_t hF hc3
        refine W_seq_reg ?_
        refine WL_assign rfl rfl ?_
        refine WL_nil ?_
        refine W_ret ?_
        refine nrm_ret ?_
        have hq3 := Option.some.inj hF
        subst hq3
        refine fn_ret1 rfl rfl ?_
        exact ⟨_, rfl, bool_res hC3 _⟩
      · replace hF := ite_f hF hc3
        refine W_skip ?_
        refine nrm_normal ?_
        refine W_seq_reg ?_
        refine WL_load_box_agg [u1, (.int .i64 a1.2.1), (.int .i64 a1.2.2)] hC3 0 rfl rfl rfl Try.isAgg24 Try.sizeOf24 rfl rfl ?_
        obtain ⟨x3, hr3, hF⟩ := bind_some hF
        refine WL_call Try.call17 rfl rfl (c_Q_toLedger (a1.1, a1.2.1, a1.2.2) u1 (g1.now hC3.keep) x3 hr3) ?_
        rintro v1 w4 ⟨hB4, F1, hv3, hn1, hb1⟩
        have hC4 := hC3.push hB4 (A := Item.own v1 x3) hv3 hn1 hb1
        obtain ⟨v2, rfl, hC5⟩ := st26_own hC4
        refine WL_move rfl rfl ?_
        obtain ⟨x4, hr4, hF⟩ := bind_some hF
        refine WL_call Try.call47 rfl rfl (c_Q_toCallS a2 u2 (g2.now hC5.keep) x4 hr4) ?_
        rintro v3 w5 ⟨hB5, F2, hv4, hn2, hb2⟩
        have hC6 := hC5.push hB5 (A := Item.own v3 x4) hv4 hn2 hb2
        refine WL_move rfl rfl ?_
        obtain ⟨x5, hr5, hF⟩ := bind_some hF
        refine WL_call Try.call37 rfl rfl (c_Q_toIntS a3 u3 (g3.now hC6.keep) x5 hr5) ?_
        rintro v4 w6 ⟨hB6, F3, hv5, hn3, hb3⟩
        have hC7 := hC6.push hB6 (A := Item.own v4 x5) hv5 hn3 hb3
        obtain ⟨x6, hr6, hF⟩ := bind_some hF
        refine WL_call Try.call45 rfl rfl (c_S_RunCalls x3 v2 ((hC7.ro 2 rfl).now (Keep.refl _ _)) x4 v3 ((hC7.ro 1 rfl).now (Keep.refl _ _)) x5 v4 ((hC7.ro 0 rfl).now (Keep.refl _ _)) x6 hr6) ?_
        rintro _ w7 ⟨hB7, v5, v6, F4, F5, rfl, hv6, hv7, hn4, hb4⟩
        have hC8 := hC7.pushL hB7 (Bs := [Item.own v5 x6.1, Item.own v6 x6.2]) (Fs := [F4, F5]) ⟨F4, _, rfl, hv6, F5, _, rfl, hv7, rfl⟩ (by simpa using hn4) (fun b h => hb4 b (by simpa using h))
        obtain ⟨v7, rfl, hC9⟩ := st26_own hC8
        refine WL_move rfl rfl ?_
        refine WL_extract rfl rfl rfl ?_
        refine WL_extract rfl rfl rfl ?_
        refine WL_alloc hC9 zero26 rfl rfl (fun b2 w8 hC10 hB8 => ?_)
        refine WL_store_box_agg (cs' := [v7, (.int .i64 x6.1.2.1), (.int .i64 x6.1.2.2)]) (new := [v7, (.int .i64 x6.1.2.1), (.int .i64 x6.1.2.2)]) hC10 0 rfl rfl (by intro v hv; simp only [List.mem_cons, List.not_mem_nil, or_false] at hv; rcases hv with rfl | rfl | rfl; exact (ro_one (hC10.ro 1 rfl)); exact rfl; exact rfl) rfl Try.sizeOf26 rfl rfl (fun w9 hC11 => ?_)
        try dsimp only [List.set] at hC11
        refine WL_assign rfl rfl ?_
        refine WL_nil ?_
        refine W_seq_reg ?_
        refine WL_load_box_agg [u1, (.int .i64 a1.2.1), (.int .i64 a1.2.2)] hC11 6 rfl rfl rfl Try.isAgg24 Try.sizeOf24 rfl rfl ?_
        obtain ⟨x7, hr7, hF⟩ := bind_some hF
        refine WL_call Try.call17 rfl rfl (c_Q_toLedger (a1.1, a1.2.1, a1.2.2) u1 (g1.now hC11.keep) x7 hr7) ?_
        rintro v8 w10 ⟨hB9, F6, hv8, hn5, hb5⟩
        have hC12 := hC11.push hB9 (A := Item.own v8 x7) hv8 hn5 hb5
        obtain ⟨v9, rfl, hC13⟩ := st26_own hC12
        refine WL_alloc hC13 zero26 rfl rfl (fun b3 w11 hC14 hB10 => ?_)
        refine WL_store_box_agg (cs' := [v9, (.int .i64 x7.2.1), (.int .i64 x7.2.2)]) (new := [v9, (.int .i64 x7.2.1), (.int .i64 x7.2.2)]) hC14 0 rfl rfl (by intro v hv; simp only [List.mem_cons, List.not_mem_nil, or_false] at hv; rcases hv with rfl | rfl | rfl; exact (ro_one (hC14.ro 1 rfl)); exact rfl; exact rfl) rfl Try.sizeOf26 rfl rfl (fun w12 hC15 => ?_)
        try dsimp only [List.set] at hC15
        refine WL_nil ?_
        refine W_seq_reg ?_
        refine WL_move rfl rfl ?_
        obtain ⟨x8, hr8, hF⟩ := bind_some hF
        refine WL_call Try.call47 rfl rfl (c_Q_toCallS a2 u2 (g2.now hC15.keep) x8 hr8) ?_
        rintro v10 w13 ⟨hB11, F7, hv9, hn6, hb6⟩
        have hC16 := hC15.push hB11 (A := Item.own v10 x8) hv9 hn6 hb6
        refine WL_assign rfl rfl ?_
        refine WL_nil ?_
        refine W_seq_reg ?_
        refine WL_move rfl rfl ?_
        obtain ⟨x9, hr9, hF⟩ := bind_some hF
        refine WL_call Try.call37 rfl rfl (c_Q_toIntS a3 u3 (g3.now hC16.keep) x9 hr9) ?_
        rintro v11 w14 ⟨hB12, F8, hv10, hn7, hb7⟩
        have hC17 := hC16.push hB12 (A := Item.own v11 x9) hv10 hn7 hb7
        refine WL_assign rfl rfl ?_
        refine WL_nil ?_
        refine W_seq_reg ?_
        refine WL_load_box_agg [v9, (.int .i64 x7.2.1), (.int .i64 x7.2.2)] hC17 2 rfl rfl rfl Try.isAgg26 Try.sizeOf26 rfl rfl ?_
        refine WL_move rfl rfl ?_
        refine WL_move rfl rfl ?_
        obtain ⟨x10, hr10, hF⟩ := bind_some hF
        refine WL_call Try.call44 rfl rfl (c_M_RunCalls (x7.1, x7.2.1, x7.2.2) v9 ((hC17.ro 3 rfl).now (Keep.refl _ _)) x8 v10 ((hC17.ro 1 rfl).now (Keep.refl _ _)) x9 v11 ((hC17.ro 0 rfl).now (Keep.refl _ _)) x10 hr10) ?_
        rintro _ w15 ⟨hB13, v12, v13, F9, F10, rfl, hv11, hv12, hn8, hb8⟩
        have hC18 := hC17.pushL hB13 (Bs := [Item.own v12 x10.1, Item.own v13 x10.2]) (Fs := [F9, F10]) ⟨F9, _, rfl, hv11, F10, _, rfl, hv12, rfl⟩ (by simpa using hn8) (fun b h => hb8 b (by simpa using h))
        obtain ⟨v14, rfl, hC19⟩ := st26_own hC18
        refine WL_move rfl rfl ?_
        refine WL_extract rfl rfl rfl ?_
        refine WL_extract rfl rfl rfl ?_
        refine WL_alloc hC19 zero26 rfl rfl (fun b4 w16 hC20 hB14 => ?_)
        refine WL_store_box_agg (cs' := [v14, (.int .i64 x10.1.2.1), (.int .i64 x10.1.2.2)]) (new := [v14, (.int .i64 x10.1.2.1), (.int .i64 x10.1.2.2)]) hC20 0 rfl rfl (by intro v hv; simp only [List.mem_cons, List.not_mem_nil, or_false] at hv; rcases hv with rfl | rfl | rfl; exact (ro_one (hC20.ro 1 rfl)); exact rfl; exact rfl) rfl Try.sizeOf26 rfl rfl (fun w17 hC21 => ?_)
        try dsimp only [List.set] at hC21
        refine WL_assign rfl rfl ?_
        refine WL_nil ?_
        refine W_seq ?_
        obtain ⟨r1, hr11, hF⟩ := bind_some hF
        refine W_cut (fun l w => ∃ x11 : Bool, x11 = r1 ∧ l = [(1, u2), (2, u3), (3, (ptr b1 0)), (8, (ptr b2 0)), (9, v6), (10, (ptr b3 0)), (11, v10), (12, v11), (13, (ptr b4 0)), (14, v13), (65, (.bool x11))] ∧ Below w17.heap.size w17 w ∧ Ctx [] w0 w [Item.box b4 [v14, (.int .i64 x10.1.2.1), (.int .i64 x10.1.2.2)], Item.own v14 (x10.1.1 : (List Int)), Item.own v13 (x10.2 : (List (Int × Int × Int × Bool))), Item.own v11 (x9 : (List Int)), Item.own v10 (x8 : (List (Int × Int × Int × Bool))), Item.box b3 [v9, (.int .i64 x7.2.1), (.int .i64 x7.2.2)], Item.own v9 (x7.1 : (List Int)), Item.box b2 [v7, (.int .i64 x6.1.2.1), (.int .i64 x6.1.2.2)], Item.own v7 (x6.1.1 : (List Int)), Item.own v6 (x6.2 : (List (Int × Int × Int × Bool))), Item.box b1 [u1, (.int .i64 a1.2.1), (.int .i64 a1.2.2)]]) ?_ ?_
        · refine W_reg ?_
          refine WL_load_box_agg [v14, (.int .i64 x10.1.2.1), (.int .i64 x10.1.2.2)] hC21 0 rfl rfl rfl Try.isAgg26 Try.sizeOf26 rfl rfl ?_
          refine WL_load_box_agg [v7, (.int .i64 x6.1.2.1), (.int .i64 x6.1.2.2)] hC21 7 rfl rfl rfl Try.isAgg26 Try.sizeOf26 rfl rfl ?_
          obtain ⟨x12, hr12, hr11⟩ := bind_some hr11
          refine WL_call Try.call19 rfl rfl (c_Q_eqLedger (x10.1.1, x10.1.2.1, x10.1.2.2) v14 ((hC21.ro 1 rfl).now (Keep.refl _ _)) (x6.1.1, x6.1.2.1, x6.1.2.2) v7 ((hC21.ro 8 rfl).now (Keep.refl _ _)) x12 hr12) ?_
          intro _ w19 hv13
          obtain ⟨rfl, hB16⟩ := res_bool hv13
          have hC23 := hC21.grow hB16
          refine WL_not rfl rfl ?_
          refine WL_move rfl rfl ?_
          refine WL_fork (fun hc4 => ?_) (fun hc4 => ?_)
          · replace hr11 := ite_t hr11 hc4
            refine WL_guard_skip rfl rfl (by simp) rfl ?_
            refine WL_guard_skip rfl rfl (by simp) rfl ?_
            refine WL_guard_skip rfl rfl (by simp) rfl ?_
            refine WL_guard_skip rfl rfl (by simp) rfl ?_
            refine WL_pick_t rfl rfl rfl ?_
            refine WL_nil ?_
            have hq4 := Option.some.inj hr11
            subst hq4
            have hC24 : Ctx [] w0 _ [Item.box b1 [u1, (.int .i64 a1.2.1), (.int .i64 a1.2.2)], Item.box b4 [v14, (.int .i64 x10.1.2.1), (.int .i64 x10.1.2.2)], Item.own v14 (x10.1.1 : (List Int)), Item.own v13 (x10.2 : (List (Int × Int × Int × Bool))), Item.own v11 (x9 : (List Int)), Item.own v10 (x8 : (List (Int × Int × Int × Bool))), Item.box b3 [v9, (.int .i64 x7.2.1), (.int .i64 x7.2.2)], Item.own v9 (x7.1 : (List Int)), Item.box b2 [v7, (.int .i64 x6.1.2.1), (.int .i64 x6.1.2.2)], Item.own v7 (x6.1.1 : (List Int)), Item.own v6 (x6.2 : (List (Int × Int × Int × Bool))), Item.own v4 (x5 : (List Int)), Item.own v3 (x4 : (List (Int × Int × Int × Bool))), Item.own v2 (x3.1 : (List Int))] := hC23.front 13 rfl
            have hC25 : Ctx [] w0 _ [Item.own v6 (x6.2 : (List (Int × Int × Int × Bool))), Item.box b1 [u1, (.int .i64 a1.2.1), (.int .i64 a1.2.2)], Item.box b4 [v14, (.int .i64 x10.1.2.1), (.int .i64 x10.1.2.2)], Item.own v14 (x10.1.1 : (List Int)), Item.own v13 (x10.2 : (List (Int × Int × Int × Bool))), Item.own v11 (x9 : (List Int)), Item.own v10 (x8 : (List (Int × Int × Int × Bool))), Item.box b3 [v9, (.int .i64 x7.2.1), (.int .i64 x7.2.2)], Item.own v9 (x7.1 : (List Int)), Item.box b2 [v7, (.int .i64 x6.1.2.1), (.int .i64 x6.1.2.2)], Item.own v7 (x6.1.1 : (List Int)), Item.own v4 (x5 : (List Int)), Item.own v3 (x4 : (List (Int × Int × Int × Bool))), Item.own v2 (x3.1 : (List Int))] := hC24.front 10 rfl
            have hC26 : Ctx [] w0 _ [Item.own v7 (x6.1.1 : (List Int)), Item.own v6 (x6.2 : (List (Int × Int × Int × Bool))), Item.box b1 [u1, (.int .i64 a1.2.1), (.int .i64 a1.2.2)], Item.box b4 [v14, (.int .i64 x10.1.2.1), (.int .i64 x10.1.2.2)], Item.own v14 (x10.1.1 : (List Int)), Item.own v13 (x10.2 : (List (Int × Int × Int × Bool))), Item.own v11 (x9 : (List Int)), Item.own v10 (x8 : (List (Int × Int × Int × Bool))), Item.box b3 [v9, (.int .i64 x7.2.1), (.int .i64 x7.2.2)], Item.own v9 (x7.1 : (List Int)), Item.box b2 [v7, (.int .i64 x6.1.2.1), (.int .i64 x6.1.2.2)], Item.own v4 (x5 : (List Int)), Item.own v3 (x4 : (List (Int × Int × Int × Bool))), Item.own v2 (x3.1 : (List Int))] := hC25.front 10 rfl
            have hC27 : Ctx [] w0 _ [Item.box b2 [v7, (.int .i64 x6.1.2.1), (.int .i64 x6.1.2.2)], Item.own v7 (x6.1.1 : (List Int)), Item.own v6 (x6.2 : (List (Int × Int × Int × Bool))), Item.box b1 [u1, (.int .i64 a1.2.1), (.int .i64 a1.2.2)], Item.box b4 [v14, (.int .i64 x10.1.2.1), (.int .i64 x10.1.2.2)], Item.own v14 (x10.1.1 : (List Int)), Item.own v13 (x10.2 : (List (Int × Int × Int × Bool))), Item.own v11 (x9 : (List Int)), Item.own v10 (x8 : (List (Int × Int × Int × Bool))), Item.box b3 [v9, (.int .i64 x7.2.1), (.int .i64 x7.2.2)], Item.own v9 (x7.1 : (List Int)), Item.own v4 (x5 : (List Int)), Item.own v3 (x4 : (List (Int × Int × Int × Bool))), Item.own v2 (x3.1 : (List Int))] := hC26.front 10 rfl
            have hC28 : Ctx [] w0 _ [Item.own v9 (x7.1 : (List Int)), Item.box b2 [v7, (.int .i64 x6.1.2.1), (.int .i64 x6.1.2.2)], Item.own v7 (x6.1.1 : (List Int)), Item.own v6 (x6.2 : (List (Int × Int × Int × Bool))), Item.box b1 [u1, (.int .i64 a1.2.1), (.int .i64 a1.2.2)], Item.box b4 [v14, (.int .i64 x10.1.2.1), (.int .i64 x10.1.2.2)], Item.own v14 (x10.1.1 : (List Int)), Item.own v13 (x10.2 : (List (Int × Int × Int × Bool))), Item.own v11 (x9 : (List Int)), Item.own v10 (x8 : (List (Int × Int × Int × Bool))), Item.box b3 [v9, (.int .i64 x7.2.1), (.int .i64 x7.2.2)], Item.own v4 (x5 : (List Int)), Item.own v3 (x4 : (List (Int × Int × Int × Bool))), Item.own v2 (x3.1 : (List Int))] := hC27.front 10 rfl
            have hC29 : Ctx [] w0 _ [Item.box b3 [v9, (.int .i64 x7.2.1), (.int .i64 x7.2.2)], Item.own v9 (x7.1 : (List Int)), Item.box b2 [v7, (.int .i64 x6.1.2.1), (.int .i64 x6.1.2.2)], Item.own v7 (x6.1.1 : (List Int)), Item.own v6 (x6.2 : (List (Int × Int × Int × Bool))), Item.box b1 [u1, (.int .i64 a1.2.1), (.int .i64 a1.2.2)], Item.box b4 [v14, (.int .i64 x10.1.2.1), (.int .i64 x10.1.2.2)], Item.own v14 (x10.1.1 : (List Int)), Item.own v13 (x10.2 : (List (Int × Int × Int × Bool))), Item.own v11 (x9 : (List Int)), Item.own v10 (x8 : (List (Int × Int × Int × Bool))), Item.own v4 (x5 : (List Int)), Item.own v3 (x4 : (List (Int × Int × Int × Bool))), Item.own v2 (x3.1 : (List Int))] := hC28.front 10 rfl
            have hC30 : Ctx [] w0 _ [Item.own v10 (x8 : (List (Int × Int × Int × Bool))), Item.box b3 [v9, (.int .i64 x7.2.1), (.int .i64 x7.2.2)], Item.own v9 (x7.1 : (List Int)), Item.box b2 [v7, (.int .i64 x6.1.2.1), (.int .i64 x6.1.2.2)], Item.own v7 (x6.1.1 : (List Int)), Item.own v6 (x6.2 : (List (Int × Int × Int × Bool))), Item.box b1 [u1, (.int .i64 a1.2.1), (.int .i64 a1.2.2)], Item.box b4 [v14, (.int .i64 x10.1.2.1), (.int .i64 x10.1.2.2)], Item.own v14 (x10.1.1 : (List Int)), Item.own v13 (x10.2 : (List (Int × Int × Int × Bool))), Item.own v11 (x9 : (List Int)), Item.own v4 (x5 : (List Int)), Item.own v3 (x4 : (List (Int × Int × Int × Bool))), Item.own v2 (x3.1 : (List Int))] := hC29.front 10 rfl
            have hC31 : Ctx [] w0 _ [Item.own v11 (x9 : (List Int)), Item.own v10 (x8 : (List (Int × Int × Int × Bool))), Item.box b3 [v9, (.int .i64 x7.2.1), (.int .i64 x7.2.2)], Item.own v9 (x7.1 : (List Int)), Item.box b2 [v7, (.int .i64 x6.1.2.1), (.int .i64 x6.1.2.2)], Item.own v7 (x6.1.1 : (List Int)), Item.own v6 (x6.2 : (List (Int × Int × Int × Bool))), Item.box b1 [u1, (.int .i64 a1.2.1), (.int .i64 a1.2.2)], Item.box b4 [v14, (.int .i64 x10.1.2.1), (.int .i64 x10.1.2.2)], Item.own v14 (x10.1.1 : (List Int)), Item.own v13 (x10.2 : (List (Int × Int × Int × Bool))), Item.own v4 (x5 : (List Int)), Item.own v3 (x4 : (List (Int × Int × Int × Bool))), Item.own v2 (x3.1 : (List Int))] := hC30.front 10 rfl
            have hC32 : Ctx [] w0 _ [Item.own v13 (x10.2 : (List (Int × Int × Int × Bool))), Item.own v11 (x9 : (List Int)), Item.own v10 (x8 : (List (Int × Int × Int × Bool))), Item.box b3 [v9, (.int .i64 x7.2.1), (.int .i64 x7.2.2)], Item.own v9 (x7.1 : (List Int)), Item.box b2 [v7, (.int .i64 x6.1.2.1), (.int .i64 x6.1.2.2)], Item.own v7 (x6.1.1 : (List Int)), Item.own v6 (x6.2 : (List (Int × Int × Int × Bool))), Item.box b1 [u1, (.int .i64 a1.2.1), (.int .i64 a1.2.2)], Item.box b4 [v14, (.int .i64 x10.1.2.1), (.int .i64 x10.1.2.2)], Item.own v14 (x10.1.1 : (List Int)), Item.own v4 (x5 : (List Int)), Item.own v3 (x4 : (List (Int × Int × Int × Bool))), Item.own v2 (x3.1 : (List Int))] := hC31.front 10 rfl
            have hC33 : Ctx [] w0 _ [Item.own v14 (x10.1.1 : (List Int)), Item.own v13 (x10.2 : (List (Int × Int × Int × Bool))), Item.own v11 (x9 : (List Int)), Item.own v10 (x8 : (List (Int × Int × Int × Bool))), Item.box b3 [v9, (.int .i64 x7.2.1), (.int .i64 x7.2.2)], Item.own v9 (x7.1 : (List Int)), Item.box b2 [v7, (.int .i64 x6.1.2.1), (.int .i64 x6.1.2.2)], Item.own v7 (x6.1.1 : (List Int)), Item.own v6 (x6.2 : (List (Int × Int × Int × Bool))), Item.box b1 [u1, (.int .i64 a1.2.1), (.int .i64 a1.2.2)], Item.box b4 [v14, (.int .i64 x10.1.2.1), (.int .i64 x10.1.2.2)], Item.own v4 (x5 : (List Int)), Item.own v3 (x4 : (List (Int × Int × Int × Bool))), Item.own v2 (x3.1 : (List Int))] := hC32.front 10 rfl
            have hC34 : Ctx [] w0 _ [Item.box b4 [v14, (.int .i64 x10.1.2.1), (.int .i64 x10.1.2.2)], Item.own v14 (x10.1.1 : (List Int)), Item.own v13 (x10.2 : (List (Int × Int × Int × Bool))), Item.own v11 (x9 : (List Int)), Item.own v10 (x8 : (List (Int × Int × Int × Bool))), Item.box b3 [v9, (.int .i64 x7.2.1), (.int .i64 x7.2.2)], Item.own v9 (x7.1 : (List Int)), Item.box b2 [v7, (.int .i64 x6.1.2.1), (.int .i64 x6.1.2.2)], Item.own v7 (x6.1.1 : (List Int)), Item.own v6 (x6.2 : (List (Int × Int × Int × Bool))), Item.box b1 [u1, (.int .i64 a1.2.1), (.int .i64 a1.2.2)], Item.own v4 (x5 : (List Int)), Item.own v3 (x4 : (List (Int × Int × Int × Bool))), Item.own v2 (x3.1 : (List Int))] := hC33.front 10 rfl
            have hC35 : Ctx [] w0 _ [Item.box b4 [v14, (.int .i64 x10.1.2.1), (.int .i64 x10.1.2.2)], Item.own v14 (x10.1.1 : (List Int)), Item.own v13 (x10.2 : (List (Int × Int × Int × Bool))), Item.own v11 (x9 : (List Int)), Item.own v10 (x8 : (List (Int × Int × Int × Bool))), Item.box b3 [v9, (.int .i64 x7.2.1), (.int .i64 x7.2.2)], Item.own v9 (x7.1 : (List Int)), Item.box b2 [v7, (.int .i64 x6.1.2.1), (.int .i64 x6.1.2.2)], Item.own v7 (x6.1.1 : (List Int)), Item.own v6 (x6.2 : (List (Int × Int × Int × Bool))), Item.box b1 [u1, (.int .i64 a1.2.1), (.int .i64 a1.2.2)]] := hC34.headN 11
            refine nrm_sub (l' := [(1, u2), (2, u3), (3, (ptr b1 0)), (8, (ptr b2 0)), (9, v6), (10, (ptr b3 0)), (11, v10), (12, v11), (13, (ptr b4 0)), (14, v13), (65, (.bool true))]) ⟨rfl, rfl, rfl, rfl, rfl, rfl, rfl, rfl, rfl, rfl, rfl, trivial⟩ ?_
            exact ⟨true, rfl, rfl, (Keep.of hB16).below, hC35⟩
          · replace hr11 := ite_f hr11 hc4
            refine WL_guard rfl rfl ?_
            refine WL_move rfl rfl ?_
            refine WL_guard rfl rfl ?_
            refine WL_move rfl rfl ?_
            obtain ⟨x13, hr13, hr11⟩ := bind_some hr11
            refine WL_guard rfl rfl ?_
            refine WL_call Try.call48 rfl rfl (c_Q_eqCallS x10.2 v13 ((hC23.ro 2 rfl).now (Keep.refl _ _)) x6.2 v6 ((hC23.ro 9 rfl).now (Keep.refl _ _)) x13 hr13) ?_
            intro _ w20 hv14
            obtain ⟨rfl, hB17⟩ := res_bool hv14
            have hC36 := hC23.grow hB17
            refine WL_guard rfl rfl ?_
            refine WL_not rfl rfl ?_
            refine WL_pick_f rfl rfl rfl ?_
            refine WL_nil ?_
            have hq5 := Option.some.inj hr11
            subst hq5
            have hC37 : Ctx [] w0 _ [Item.box b1 [u1, (.int .i64 a1.2.1), (.int .i64 a1.2.2)], Item.box b4 [v14, (.int .i64 x10.1.2.1), (.int .i64 x10.1.2.2)], Item.own v14 (x10.1.1 : (List Int)), Item.own v13 (x10.2 : (List (Int × Int × Int × Bool))), Item.own v11 (x9 : (List Int)), Item.own v10 (x8 : (List (Int × Int × Int × Bool))), Item.box b3 [v9, (.int .i64 x7.2.1), (.int .i64 x7.2.2)], Item.own v9 (x7.1 : (List Int)), Item.box b2 [v7, (.int .i64 x6.1.2.1), (.int .i64 x6.1.2.2)], Item.own v7 (x6.1.1 : (List Int)), Item.own v6 (x6.2 : (List (Int × Int × Int × Bool))), Item.own v4 (x5 : (List Int)), Item.own v3 (x4 : (List (Int × Int × Int × Bool))), Item.own v2 (x3.1 : (List Int))] := hC36.front 13 rfl
            have hC38 : Ctx [] w0 _ [Item.own v6 (x6.2 : (List (Int × Int × Int × Bool))), Item.box b1 [u1, (.int .i64 a1.2.1), (.int .i64 a1.2.2)], Item.box b4 [v14, (.int .i64 x10.1.2.1), (.int .i64 x10.1.2.2)], Item.own v14 (x10.1.1 : (List Int)), Item.own v13 (x10.2 : (List (Int × Int × Int × Bool))), Item.own v11 (x9 : (List Int)), Item.own v10 (x8 : (List (Int × Int × Int × Bool))), Item.box b3 [v9, (.int .i64 x7.2.1), (.int .i64 x7.2.2)], Item.own v9 (x7.1 : (List Int)), Item.box b2 [v7, (.int .i64 x6.1.2.1), (.int .i64 x6.1.2.2)], Item.own v7 (x6.1.1 : (List Int)), Item.own v4 (x5 : (List Int)), Item.own v3 (x4 : (List (Int × Int × Int × Bool))), Item.own v2 (x3.1 : (List Int))] := hC37.front 10 rfl
            have hC39 : Ctx [] w0 _ [Item.own v7 (x6.1.1 : (List Int)), Item.own v6 (x6.2 : (List (Int × Int × Int × Bool))), Item.box b1 [u1, (.int .i64 a1.2.1), (.int .i64 a1.2.2)], Item.box b4 [v14, (.int .i64 x10.1.2.1), (.int .i64 x10.1.2.2)], Item.own v14 (x10.1.1 : (List Int)), Item.own v13 (x10.2 : (List (Int × Int × Int × Bool))), Item.own v11 (x9 : (List Int)), Item.own v10 (x8 : (List (Int × Int × Int × Bool))), Item.box b3 [v9, (.int .i64 x7.2.1), (.int .i64 x7.2.2)], Item.own v9 (x7.1 : (List Int)), Item.box b2 [v7, (.int .i64 x6.1.2.1), (.int .i64 x6.1.2.2)], Item.own v4 (x5 : (List Int)), Item.own v3 (x4 : (List (Int × Int × Int × Bool))), Item.own v2 (x3.1 : (List Int))] := hC38.front 10 rfl
            have hC40 : Ctx [] w0 _ [Item.box b2 [v7, (.int .i64 x6.1.2.1), (.int .i64 x6.1.2.2)], Item.own v7 (x6.1.1 : (List Int)), Item.own v6 (x6.2 : (List (Int × Int × Int × Bool))), Item.box b1 [u1, (.int .i64 a1.2.1), (.int .i64 a1.2.2)], Item.box b4 [v14, (.int .i64 x10.1.2.1), (.int .i64 x10.1.2.2)], Item.own v14 (x10.1.1 : (List Int)), Item.own v13 (x10.2 : (List (Int × Int × Int × Bool))), Item.own v11 (x9 : (List Int)), Item.own v10 (x8 : (List (Int × Int × Int × Bool))), Item.box b3 [v9, (.int .i64 x7.2.1), (.int .i64 x7.2.2)], Item.own v9 (x7.1 : (List Int)), Item.own v4 (x5 : (List Int)), Item.own v3 (x4 : (List (Int × Int × Int × Bool))), Item.own v2 (x3.1 : (List Int))] := hC39.front 10 rfl
            have hC41 : Ctx [] w0 _ [Item.own v9 (x7.1 : (List Int)), Item.box b2 [v7, (.int .i64 x6.1.2.1), (.int .i64 x6.1.2.2)], Item.own v7 (x6.1.1 : (List Int)), Item.own v6 (x6.2 : (List (Int × Int × Int × Bool))), Item.box b1 [u1, (.int .i64 a1.2.1), (.int .i64 a1.2.2)], Item.box b4 [v14, (.int .i64 x10.1.2.1), (.int .i64 x10.1.2.2)], Item.own v14 (x10.1.1 : (List Int)), Item.own v13 (x10.2 : (List (Int × Int × Int × Bool))), Item.own v11 (x9 : (List Int)), Item.own v10 (x8 : (List (Int × Int × Int × Bool))), Item.box b3 [v9, (.int .i64 x7.2.1), (.int .i64 x7.2.2)], Item.own v4 (x5 : (List Int)), Item.own v3 (x4 : (List (Int × Int × Int × Bool))), Item.own v2 (x3.1 : (List Int))] := hC40.front 10 rfl
            have hC42 : Ctx [] w0 _ [Item.box b3 [v9, (.int .i64 x7.2.1), (.int .i64 x7.2.2)], Item.own v9 (x7.1 : (List Int)), Item.box b2 [v7, (.int .i64 x6.1.2.1), (.int .i64 x6.1.2.2)], Item.own v7 (x6.1.1 : (List Int)), Item.own v6 (x6.2 : (List (Int × Int × Int × Bool))), Item.box b1 [u1, (.int .i64 a1.2.1), (.int .i64 a1.2.2)], Item.box b4 [v14, (.int .i64 x10.1.2.1), (.int .i64 x10.1.2.2)], Item.own v14 (x10.1.1 : (List Int)), Item.own v13 (x10.2 : (List (Int × Int × Int × Bool))), Item.own v11 (x9 : (List Int)), Item.own v10 (x8 : (List (Int × Int × Int × Bool))), Item.own v4 (x5 : (List Int)), Item.own v3 (x4 : (List (Int × Int × Int × Bool))), Item.own v2 (x3.1 : (List Int))] := hC41.front 10 rfl
            have hC43 : Ctx [] w0 _ [Item.own v10 (x8 : (List (Int × Int × Int × Bool))), Item.box b3 [v9, (.int .i64 x7.2.1), (.int .i64 x7.2.2)], Item.own v9 (x7.1 : (List Int)), Item.box b2 [v7, (.int .i64 x6.1.2.1), (.int .i64 x6.1.2.2)], Item.own v7 (x6.1.1 : (List Int)), Item.own v6 (x6.2 : (List (Int × Int × Int × Bool))), Item.box b1 [u1, (.int .i64 a1.2.1), (.int .i64 a1.2.2)], Item.box b4 [v14, (.int .i64 x10.1.2.1), (.int .i64 x10.1.2.2)], Item.own v14 (x10.1.1 : (List Int)), Item.own v13 (x10.2 : (List (Int × Int × Int × Bool))), Item.own v11 (x9 : (List Int)), Item.own v4 (x5 : (List Int)), Item.own v3 (x4 : (List (Int × Int × Int × Bool))), Item.own v2 (x3.1 : (List Int))] := hC42.front 10 rfl
            have hC44 : Ctx [] w0 _ [Item.own v11 (x9 : (List Int)), Item.own v10 (x8 : (List (Int × Int × Int × Bool))), Item.box b3 [v9, (.int .i64 x7.2.1), (.int .i64 x7.2.2)], Item.own v9 (x7.1 : (List Int)), Item.box b2 [v7, (.int .i64 x6.1.2.1), (.int .i64 x6.1.2.2)], Item.own v7 (x6.1.1 : (List Int)), Item.own v6 (x6.2 : (List (Int × Int × Int × Bool))), Item.box b1 [u1, (.int .i64 a1.2.1), (.int .i64 a1.2.2)], Item.box b4 [v14, (.int .i64 x10.1.2.1), (.int .i64 x10.1.2.2)], Item.own v14 (x10.1.1 : (List Int)), Item.own v13 (x10.2 : (List (Int × Int × Int × Bool))), Item.own v4 (x5 : (List Int)), Item.own v3 (x4 : (List (Int × Int × Int × Bool))), Item.own v2 (x3.1 : (List Int))] := hC43.front 10 rfl
            have hC45 : Ctx [] w0 _ [Item.own v13 (x10.2 : (List (Int × Int × Int × Bool))), Item.own v11 (x9 : (List Int)), Item.own v10 (x8 : (List (Int × Int × Int × Bool))), Item.box b3 [v9, (.int .i64 x7.2.1), (.int .i64 x7.2.2)], Item.own v9 (x7.1 : (List Int)), Item.box b2 [v7, (.int .i64 x6.1.2.1), (.int .i64 x6.1.2.2)], Item.own v7 (x6.1.1 : (List Int)), Item.own v6 (x6.2 : (List (Int × Int × Int × Bool))), Item.box b1 [u1, (.int .i64 a1.2.1), (.int .i64 a1.2.2)], Item.box b4 [v14, (.int .i64 x10.1.2.1), (.int .i64 x10.1.2.2)], Item.own v14 (x10.1.1 : (List Int)), Item.own v4 (x5 : (List Int)), Item.own v3 (x4 : (List (Int × Int × Int × Bool))), Item.own v2 (x3.1 : (List Int))] := hC44.front 10 rfl
            have hC46 : Ctx [] w0 _ [Item.own v14 (x10.1.1 : (List Int)), Item.own v13 (x10.2 : (List (Int × Int × Int × Bool))), Item.own v11 (x9 : (List Int)), Item.own v10 (x8 : (List (Int × Int × Int × Bool))), Item.box b3 [v9, (.int .i64 x7.2.1), (.int .i64 x7.2.2)], Item.own v9 (x7.1 : (List Int)), Item.box b2 [v7, (.int .i64 x6.1.2.1), (.int .i64 x6.1.2.2)], Item.own v7 (x6.1.1 : (List Int)), Item.own v6 (x6.2 : (List (Int × Int × Int × Bool))), Item.box b1 [u1, (.int .i64 a1.2.1), (.int .i64 a1.2.2)], Item.box b4 [v14, (.int .i64 x10.1.2.1), (.int .i64 x10.1.2.2)], Item.own v4 (x5 : (List Int)), Item.own v3 (x4 : (List (Int × Int × Int × Bool))), Item.own v2 (x3.1 : (List Int))] := hC45.front 10 rfl
            have hC47 : Ctx [] w0 _ [Item.box b4 [v14, (.int .i64 x10.1.2.1), (.int .i64 x10.1.2.2)], Item.own v14 (x10.1.1 : (List Int)), Item.own v13 (x10.2 : (List (Int × Int × Int × Bool))), Item.own v11 (x9 : (List Int)), Item.own v10 (x8 : (List (Int × Int × Int × Bool))), Item.box b3 [v9, (.int .i64 x7.2.1), (.int .i64 x7.2.2)], Item.own v9 (x7.1 : (List Int)), Item.box b2 [v7, (.int .i64 x6.1.2.1), (.int .i64 x6.1.2.2)], Item.own v7 (x6.1.1 : (List Int)), Item.own v6 (x6.2 : (List (Int × Int × Int × Bool))), Item.box b1 [u1, (.int .i64 a1.2.1), (.int .i64 a1.2.2)], Item.own v4 (x5 : (List Int)), Item.own v3 (x4 : (List (Int × Int × Int × Bool))), Item.own v2 (x3.1 : (List Int))] := hC46.front 10 rfl
            have hC48 : Ctx [] w0 _ [Item.box b4 [v14, (.int .i64 x10.1.2.1), (.int .i64 x10.1.2.2)], Item.own v14 (x10.1.1 : (List Int)), Item.own v13 (x10.2 : (List (Int × Int × Int × Bool))), Item.own v11 (x9 : (List Int)), Item.own v10 (x8 : (List (Int × Int × Int × Bool))), Item.box b3 [v9, (.int .i64 x7.2.1), (.int .i64 x7.2.2)], Item.own v9 (x7.1 : (List Int)), Item.box b2 [v7, (.int .i64 x6.1.2.1), (.int .i64 x6.1.2.2)], Item.own v7 (x6.1.1 : (List Int)), Item.own v6 (x6.2 : (List (Int × Int × Int × Bool))), Item.box b1 [u1, (.int .i64 a1.2.1), (.int .i64 a1.2.2)]] := hC47.headN 11
            refine nrm_sub (l' := [(1, u2), (2, u3), (3, (ptr b1 0)), (8, (ptr b2 0)), (9, v6), (10, (ptr b3 0)), (11, v10), (12, v11), (13, (ptr b4 0)), (14, v13), (65, (.bool (!x13)))]) ⟨rfl, rfl, rfl, rfl, rfl, rfl, rfl, rfl, rfl, rfl, rfl, trivial⟩ ?_
            exact ⟨(!x13), rfl, rfl, ((Keep.of hB16).then hB17).below, hC48⟩
        · rintro _ w18 ⟨x11, rfl, rfl, hB15, hC22⟩
          try dsimp only at hF
          refine W_cond rfl (fun hc5 => ?_) (fun hc5 => ?_)
          · replace hF := ite_t hF hc5
            refine W_seq_reg ?_
            refine WL_assign rfl rfl ?_
            refine WL_nil ?_
            refine W_ret ?_
            refine nrm_ret ?_
            have hq6 := Option.some.inj hF
            subst hq6
            refine fn_ret1 rfl rfl ?_
            exact ⟨_, rfl, bool_res hC22 _⟩
          · replace hF := ite_f hF hc5
            refine W_skip ?_
            refine nrm_normal ?_
            refine W_seq ?_
            refine W_seq ?_
            refine W_drawn 5 rfl hmix (fun w21 hB18 => ?_)
            have hC49 := hC22.grow hB18
            obtain ⟨x14, hr14, hF⟩ := bind_some hF
            refine WA.sub (l' := [(1, u2), (2, u3), (3, (ptr b1 0)), (8, (ptr b2 0)), (9, v6), (10, (ptr b3 0)), (11, v10), (12, v11), (13, (ptr b4 0)), (14, v13), (65, (.bool x11))]) ?_ ⟨rfl, rfl, rfl, rfl, rfl, rfl, rfl, rfl, rfl, rfl, rfl, trivial⟩
            refine WA_postsE [⟨0, [], fun vs => PW.val (.agg #[v9, (.int .i64 x7.2.1), (.int .i64 x7.2.2)]), []⟩, ⟨1, [], fun vs => PW.val (.agg #[u1, (.int .i64 a1.2.1), (.int .i64 a1.2.2)]), []⟩, ⟨2, [], fun vs => PW.own x14, []⟩] [[], [], [1]] 2 rfl (by kernel_rfl) (by kernel_rfl) rfl ?_ ?_
            · refine StepsE_cons rfl ?_ ?_
              · intro w23 hB20
                refine DepsE_nil ?_
                refine ⟨_, rfl, ?_⟩
                refine WL_load_box_agg [v9, (.int .i64 x7.2.1), (.int .i64 x7.2.2)] (hC49.grow hB20) 5 rfl rfl rfl Try.isAgg26 Try.sizeOf26 rfl rfl ?_
                refine WL_nil ?_
                exact FinE_val (Below.refl _ _) rfl rfl ⟨rfl, rfl⟩
              refine StepsE_cons rfl ?_ ?_
              · intro w23 hB20
                refine DepsE_nil ?_
                refine ⟨_, rfl, ?_⟩
                refine WL_load_box_agg [u1, (.int .i64 a1.2.1), (.int .i64 a1.2.2)] (hC49.grow hB20) 10 rfl rfl rfl Try.isAgg24 Try.sizeOf24 rfl rfl ?_
                refine WL_nil ?_
                exact FinE_val (Below.refl _ _) rfl rfl ⟨rfl, rfl⟩
              refine StepsE_cons rfl ?_ ?_
              · intro w23 hB20
                refine DepsE_cons rfl rfl rfl ?_
                rintro _ _ ⟨rfl, rfl⟩ _
                refine DepsE_nil ?_
                refine ⟨_, rfl, ?_⟩
                refine WL_call Try.call17 rfl rfl (c_Q_toLedger (a1.1, a1.2.1, a1.2.2) u1 (g1.now (hC49.keep.then hB20)) x14 hr14) ?_
                rintro v15 w22 ⟨hB19, F11, hv15, hn9, hb9⟩
                refine WL_nil ?_
                exact FinE_own hB19 rfl rfl hv15 hn9 hb9 (Val.inh hv15)
              exact StepsE_nil
            · intro w24 hB21
              refine AllE_cons rfl rfl rfl ?_
              rintro _ _ ⟨rfl, rfl⟩
              refine AllE_cons rfl rfl rfl ?_
              rintro _ _ ⟨rfl, rfl⟩
              refine AllE_cons rfl rfl rfl ?_
              intro v15 F11 hv15
              refine AllE_nil ?_
              intro hn10 hb10
              have hC50 := hC49.pushL hB21 (Bs := [Item.own v15 (x14 : ((List Int) × Int × Int))]) (Fs := [F11]) ⟨F11, _, rfl, hv15, rfl⟩ (by simpa using hn10) (fun b h => (hb10 b (by simpa using h)).1)
              obtain ⟨v17, rfl, hC51⟩ := st26_own hC50
              obtain ⟨x15, hr15, hF⟩ := bind_some hF
              refine WA_one 3 (by kernel_rfl) rfl ?_
              refine WL_call Try.call19 rfl rfl (c_Q_eqLedger (x7.1, x7.2.1, x7.2.2) v9 ((hC51.ro 7 rfl).now (Keep.refl _ _)) x14 v17 ((hC51.ro 0 rfl).now (Keep.refl _ _)) x15 hr15) ?_
              intro _ w25 hv16
              obtain ⟨rfl, hB22⟩ := res_bool hv16
              have hC52 := hC51.grow hB22
              refine WL_nil ?_
              refine WA_take 4 rfl (by kernel_rfl) (by kernel_rfl) (by kernel_rfl) rfl (fl_not rfl) ?_
              refine WL_not rfl rfl ?_
              refine WL_nil ?_
              refine WA_done (by kernel_rfl) ?_
              refine nrm_normal ?_
              refine W_cond rfl (fun hc6 => ?_) (fun hc6 => ?_)
              · replace hF := ite_t hF hc6
                refine W_seq_reg ?_
                refine WL_assign rfl rfl ?_
                refine WL_nil ?_
                refine W_ret ?_
                refine nrm_ret ?_
                have hq7 := Option.some.inj hF
                subst hq7
                refine fn_ret1 rfl rfl ?_
                exact ⟨_, rfl, bool_res hC52 _⟩
              · replace hF := ite_f hF hc6
                refine W_skip ?_
                refine nrm_normal ?_
                refine W_seq ?_
                refine W_seq_reg ?_
                refine WL_move rfl rfl ?_
                refine WL_move rfl rfl ?_
                obtain ⟨x16, hr16, hF⟩ := bind_some hF
                refine WL_call Try.call47 rfl rfl (c_Q_toCallS a2 u2 (g2.now hC52.keep) x16 hr16) ?_
                rintro v18 w26 ⟨hB23, F12, hv17, hn11, hb11⟩
                have hC53 := hC52.push hB23 (A := Item.own v18 x16) hv17 hn11 hb11
                obtain ⟨x17, hr17, hF⟩ := bind_some hF
                refine WL_call Try.call48 rfl rfl (c_Q_eqCallS x8 v10 ((hC53.ro 6 rfl).now (Keep.refl _ _)) x16 v18 ((hC53.ro 0 rfl).now (Keep.refl _ _)) x17 hr17) ?_
                intro _ w27 hv18
                obtain ⟨rfl, hB24⟩ := res_bool hv18
                have hC54 := hC53.grow hB24
                refine WL_not rfl rfl ?_
                refine WL_nil ?_
                refine W_cond rfl (fun hc7 => ?_) (fun hc7 => ?_)
                · replace hF := ite_t hF hc7
                  refine W_seq_reg ?_
                  refine WL_assign rfl rfl ?_
                  refine WL_nil ?_
                  refine W_ret ?_
                  refine nrm_ret ?_
                  have hq8 := Option.some.inj hF
                  subst hq8
                  refine fn_ret1 rfl rfl ?_
                  exact ⟨_, rfl, bool_res hC54 _⟩
                · replace hF := ite_f hF hc7
                  refine W_skip ?_
                  refine nrm_normal ?_
                  refine W_seq ?_
                  refine W_seq_reg ?_
                  refine WL_move rfl rfl ?_
                  refine WL_move rfl rfl ?_
                  obtain ⟨x18, hr18, hF⟩ := bind_some hF
                  refine WL_call Try.call37 rfl rfl (c_Q_toIntS a3 u3 (g3.now hC54.keep) x18 hr18) ?_
                  rintro v19 w28 ⟨hB25, F13, hv19, hn12, hb12⟩
                  have hC55 := hC54.push hB25 (A := Item.own v19 x18) hv19 hn12 hb12
                  obtain ⟨x19, hr19, hF⟩ := bind_some hF
                  refine WL_call Try.call39 rfl rfl (c_Q_eqIntS x9 v11 ((hC55.ro 6 rfl).now (Keep.refl _ _)) x18 v19 ((hC55.ro 0 rfl).now (Keep.refl _ _)) x19 hr19) ?_
                  intro _ w29 hv20
                  obtain ⟨rfl, hB26⟩ := res_bool hv20
                  have hC56 := hC55.grow hB26
                  refine WL_not rfl rfl ?_
                  refine WL_nil ?_
                  refine W_cond rfl (fun hc8 => ?_) (fun hc8 => ?_)
                  · replace hF := ite_t hF hc8
                    refine W_seq_reg ?_
                    refine WL_assign rfl rfl ?_
                    refine WL_nil ?_
                    refine W_ret ?_
                    refine nrm_ret ?_
                    have hq9 := Option.some.inj hF
                    subst hq9
                    refine fn_ret1 rfl rfl ?_
                    exact ⟨_, rfl, bool_res hC56 _⟩
                  · replace hF := ite_f hF hc8
                    refine W_skip ?_
                    refine nrm_normal ?_
                    refine W_seq_reg ?_
                    refine WL_assign rfl rfl ?_
                    refine WL_nil ?_
                    refine W_seq_reg ?_
                    refine WL_load_box_agg [v9, (.int .i64 x7.2.1), (.int .i64 x7.2.2)] hC56 8 rfl rfl rfl Try.isAgg26 Try.sizeOf26 rfl rfl ?_
                    refine WL_move rfl rfl ?_
                    obtain ⟨x20, hr20, hF⟩ := bind_some hF
                    have hC57 : Ctx [] w0 _ [Item.own v9 (x7.1 : (List Int)), Item.own v19 (x18 : (List Int)), Item.own v18 (x16 : (List (Int × Int × Int × Bool))), Item.own v17 (x14.1 : (List Int)), Item.box b4 [v14, (.int .i64 x10.1.2.1), (.int .i64 x10.1.2.2)], Item.own v14 (x10.1.1 : (List Int)), Item.own v13 (x10.2 : (List (Int × Int × Int × Bool))), Item.own v11 (x9 : (List Int)), Item.own v10 (x8 : (List (Int × Int × Int × Bool))), Item.box b3 [v9, (.int .i64 x7.2.1), (.int .i64 x7.2.2)], Item.box b2 [v7, (.int .i64 x6.1.2.1), (.int .i64 x6.1.2.2)], Item.own v7 (x6.1.1 : (List Int)), Item.own v6 (x6.2 : (List (Int × Int × Int × Bool))), Item.box b1 [u1, (.int .i64 a1.2.1), (.int .i64 a1.2.2)]] := hC56.front 9 rfl
                    obtain ⟨Fs1, hH1, hn13, hF1, hO1, hb13⟩ := Ctx.lend2 (As := [Item.own v19 (x18 : (List Int)), Item.own v18 (x16 : (List (Int × Int × Int × Bool))), Item.own v17 (x14.1 : (List Int)), Item.box b4 [v14, (.int .i64 x10.1.2.1), (.int .i64 x10.1.2.2)], Item.own v14 (x10.1.1 : (List Int)), Item.own v13 (x10.2 : (List (Int × Int × Int × Bool))), Item.own v11 (x9 : (List Int)), Item.own v10 (x8 : (List (Int × Int × Int × Bool))), Item.box b3 [v9, (.int .i64 x7.2.1), (.int .i64 x7.2.2)], Item.box b2 [v7, (.int .i64 x6.1.2.1), (.int .i64 x6.1.2.2)], Item.own v7 (x6.1.1 : (List Int)), Item.own v6 (x6.2 : (List (Int × Int × Int × Bool))), Item.box b1 [u1, (.int .i64 a1.2.1), (.int .i64 a1.2.2)]]) [Item.own v9 (x7.1 : (List Int))] hC57
                    refine WL_call Try.call20 rfl rfl (c_Q_markLedger (x7.1, x7.2.1, x7.2.2) v9 1 hH1 hn13 x20 hr20) ?_
                    rintro _ w30 ⟨rfl, hq10⟩
                    have hC58 : Ctx [] w0 w30 [Item.own v9 (x20.2.1 : (List Int)), Item.own v19 (x18 : (List Int)), Item.own v18 (x16 : (List (Int × Int × Int × Bool))), Item.own v17 (x14.1 : (List Int)), Item.box b4 [v14, (.int .i64 x10.1.2.1), (.int .i64 x10.1.2.2)], Item.own v14 (x10.1.1 : (List Int)), Item.own v13 (x10.2 : (List (Int × Int × Int × Bool))), Item.own v11 (x9 : (List Int)), Item.own v10 (x8 : (List (Int × Int × Int × Bool))), Item.box b3 [v9, (.int .i64 x7.2.1), (.int .i64 x7.2.2)], Item.box b2 [v7, (.int .i64 x6.1.2.1), (.int .i64 x6.1.2.2)], Item.own v7 (x6.1.1 : (List Int)), Item.own v6 (x6.2 : (List (Int × Int × Int × Bool))), Item.box b1 [u1, (.int .i64 a1.2.1), (.int .i64 a1.2.2)]] := hb13 _ _ hq10
                    refine WL_assign rfl rfl ?_
                    refine WL_nil ?_
                    refine W_seq_reg ?_
                    refine WL_move rfl rfl ?_
                    refine WL_move rfl rfl ?_
                    obtain ⟨x21, hr21, hF⟩ := bind_some hF
                    have hC59 : Ctx [] w0 _ [Item.own v10 (x8 : (List (Int × Int × Int × Bool))), Item.own v9 (x20.2.1 : (List Int)), Item.own v19 (x18 : (List Int)), Item.own v18 (x16 : (List (Int × Int × Int × Bool))), Item.own v17 (x14.1 : (List Int)), Item.box b4 [v14, (.int .i64 x10.1.2.1), (.int .i64 x10.1.2.2)], Item.own v14 (x10.1.1 : (List Int)), Item.own v13 (x10.2 : (List (Int × Int × Int × Bool))), Item.own v11 (x9 : (List Int)), Item.box b3 [v9, (.int .i64 x7.2.1), (.int .i64 x7.2.2)], Item.box b2 [v7, (.int .i64 x6.1.2.1), (.int .i64 x6.1.2.2)], Item.own v7 (x6.1.1 : (List Int)), Item.own v6 (x6.2 : (List (Int × Int × Int × Bool))), Item.box b1 [u1, (.int .i64 a1.2.1), (.int .i64 a1.2.2)]] := hC58.front 8 rfl
                    obtain ⟨Fs2, hH2, hn14, hF2, hO2, hb14⟩ := Ctx.lend2 (As := [Item.own v9 (x20.2.1 : (List Int)), Item.own v19 (x18 : (List Int)), Item.own v18 (x16 : (List (Int × Int × Int × Bool))), Item.own v17 (x14.1 : (List Int)), Item.box b4 [v14, (.int .i64 x10.1.2.1), (.int .i64 x10.1.2.2)], Item.own v14 (x10.1.1 : (List Int)), Item.own v13 (x10.2 : (List (Int × Int × Int × Bool))), Item.own v11 (x9 : (List Int)), Item.box b3 [v9, (.int .i64 x7.2.1), (.int .i64 x7.2.2)], Item.box b2 [v7, (.int .i64 x6.1.2.1), (.int .i64 x6.1.2.2)], Item.own v7 (x6.1.1 : (List Int)), Item.own v6 (x6.2 : (List (Int × Int × Int × Bool))), Item.box b1 [u1, (.int .i64 a1.2.1), (.int .i64 a1.2.2)]]) [Item.own v10 (x8 : (List (Int × Int × Int × Bool)))] hC59
                    refine WL_call Try.call49 rfl rfl (c_Q_markCallS x8 v10 x20.1 hH2 hn14 x21 hr21) ?_
                    rintro _ w31 ⟨rfl, hq11⟩
                    have hC60 : Ctx [] w0 w31 [Item.own v10 (x21.2 : (List (Int × Int × Int × Bool))), Item.own v9 (x20.2.1 : (List Int)), Item.own v19 (x18 : (List Int)), Item.own v18 (x16 : (List (Int × Int × Int × Bool))), Item.own v17 (x14.1 : (List Int)), Item.box b4 [v14, (.int .i64 x10.1.2.1), (.int .i64 x10.1.2.2)], Item.own v14 (x10.1.1 : (List Int)), Item.own v13 (x10.2 : (List (Int × Int × Int × Bool))), Item.own v11 (x9 : (List Int)), Item.box b3 [v9, (.int .i64 x7.2.1), (.int .i64 x7.2.2)], Item.box b2 [v7, (.int .i64 x6.1.2.1), (.int .i64 x6.1.2.2)], Item.own v7 (x6.1.1 : (List Int)), Item.own v6 (x6.2 : (List (Int × Int × Int × Bool))), Item.box b1 [u1, (.int .i64 a1.2.1), (.int .i64 a1.2.2)]] := hb14 _ _ hq11
                    refine WL_assign rfl rfl ?_
                    refine WL_nil ?_
                    refine W_seq_reg ?_
                    refine WL_move rfl rfl ?_
                    refine WL_move rfl rfl ?_
                    obtain ⟨x22, hr22, hF⟩ := bind_some hF
                    have hC61 : Ctx [] w0 _ [Item.own v11 (x9 : (List Int)), Item.own v10 (x21.2 : (List (Int × Int × Int × Bool))), Item.own v9 (x20.2.1 : (List Int)), Item.own v19 (x18 : (List Int)), Item.own v18 (x16 : (List (Int × Int × Int × Bool))), Item.own v17 (x14.1 : (List Int)), Item.box b4 [v14, (.int .i64 x10.1.2.1), (.int .i64 x10.1.2.2)], Item.own v14 (x10.1.1 : (List Int)), Item.own v13 (x10.2 : (List (Int × Int × Int × Bool))), Item.box b3 [v9, (.int .i64 x7.2.1), (.int .i64 x7.2.2)], Item.box b2 [v7, (.int .i64 x6.1.2.1), (.int .i64 x6.1.2.2)], Item.own v7 (x6.1.1 : (List Int)), Item.own v6 (x6.2 : (List (Int × Int × Int × Bool))), Item.box b1 [u1, (.int .i64 a1.2.1), (.int .i64 a1.2.2)]] := hC60.front 8 rfl
                    obtain ⟨Fs3, hH3, hn15, hF3, hO3, hb15⟩ := Ctx.lend2 (As := [Item.own v10 (x21.2 : (List (Int × Int × Int × Bool))), Item.own v9 (x20.2.1 : (List Int)), Item.own v19 (x18 : (List Int)), Item.own v18 (x16 : (List (Int × Int × Int × Bool))), Item.own v17 (x14.1 : (List Int)), Item.box b4 [v14, (.int .i64 x10.1.2.1), (.int .i64 x10.1.2.2)], Item.own v14 (x10.1.1 : (List Int)), Item.own v13 (x10.2 : (List (Int × Int × Int × Bool))), Item.box b3 [v9, (.int .i64 x7.2.1), (.int .i64 x7.2.2)], Item.box b2 [v7, (.int .i64 x6.1.2.1), (.int .i64 x6.1.2.2)], Item.own v7 (x6.1.1 : (List Int)), Item.own v6 (x6.2 : (List (Int × Int × Int × Bool))), Item.box b1 [u1, (.int .i64 a1.2.1), (.int .i64 a1.2.2)]]) [Item.own v11 (x9 : (List Int))] hC61
                    refine WL_call Try.call40 rfl rfl (c_Q_markIntS x9 v11 x21.1 hH3 hn15 x22 hr22) ?_
                    rintro _ w32 ⟨rfl, hq12⟩
                    have hC62 : Ctx [] w0 w32 [Item.own v11 (x22.2 : (List Int)), Item.own v10 (x21.2 : (List (Int × Int × Int × Bool))), Item.own v9 (x20.2.1 : (List Int)), Item.own v19 (x18 : (List Int)), Item.own v18 (x16 : (List (Int × Int × Int × Bool))), Item.own v17 (x14.1 : (List Int)), Item.box b4 [v14, (.int .i64 x10.1.2.1), (.int .i64 x10.1.2.2)], Item.own v14 (x10.1.1 : (List Int)), Item.own v13 (x10.2 : (List (Int × Int × Int × Bool))), Item.box b3 [v9, (.int .i64 x7.2.1), (.int .i64 x7.2.2)], Item.box b2 [v7, (.int .i64 x6.1.2.1), (.int .i64 x6.1.2.2)], Item.own v7 (x6.1.1 : (List Int)), Item.own v6 (x6.2 : (List (Int × Int × Int × Bool))), Item.box b1 [u1, (.int .i64 a1.2.1), (.int .i64 a1.2.2)]] := hb15 _ _ hq12
                    refine WL_assign rfl rfl ?_
                    refine WL_nil ?_
                    refine W_seq ?_
                    obtain ⟨r2, hr23, hF⟩ := bind_some hF
                    refine W_cut (fun l w => ∃ x23 : Bool, x23 = r2 ∧ l = [(1, u2), (2, u3), (3, (ptr b1 0)), (8, (ptr b2 0)), (9, v6), (13, (ptr b4 0)), (14, v13), (103, (.bool x23))] ∧ Below w32.heap.size w32 w ∧ Ctx [] w0 w [Item.box b4 [v14, (.int .i64 x10.1.2.1), (.int .i64 x10.1.2.2)], Item.own v14 (x10.1.1 : (List Int)), Item.own v13 (x10.2 : (List (Int × Int × Int × Bool))), Item.box b2 [v7, (.int .i64 x6.1.2.1), (.int .i64 x6.1.2.2)], Item.own v7 (x6.1.1 : (List Int)), Item.own v6 (x6.2 : (List (Int × Int × Int × Bool))), Item.box b1 [u1, (.int .i64 a1.2.1), (.int .i64 a1.2.2)]]) ?_ ?_
                    · refine W_reg ?_
                      refine WL_move rfl rfl ?_
                      refine WL_lss rfl rfl rfl ?_
                      refine WL_move rfl rfl ?_
                      refine WL_fork (fun hc9 => ?_) (fun hc9 => ?_)
                      · replace hr23 := ite_t hr23 hc9
                        refine WL_guard_skip rfl rfl (by simp) rfl ?_
                        refine WL_guard_skip rfl rfl (by simp) rfl ?_
                        refine WL_guard_skip rfl rfl (by simp) rfl ?_
                        refine WL_guard_skip rfl rfl (by simp) rfl ?_
                        refine WL_pick_t rfl rfl rfl ?_
                        refine WL_move rfl rfl ?_
                        refine WL_guard_skip rfl rfl (by simp) rfl ?_
                        refine WL_guard_skip rfl rfl (by simp) rfl ?_
                        refine WL_guard_skip rfl rfl (by simp) rfl ?_
                        refine WL_guard_skip rfl rfl (by simp) rfl ?_
                        refine WL_pick_t rfl rfl rfl ?_
                        refine WL_nil ?_
                        have hq13 := Option.some.inj hr23
                        subst hq13
                        have hC64 : Ctx [] w0 _ [Item.box b1 [u1, (.int .i64 a1.2.1), (.int .i64 a1.2.2)], Item.own v11 (x22.2 : (List Int)), Item.own v10 (x21.2 : (List (Int × Int × Int × Bool))), Item.own v9 (x20.2.1 : (List Int)), Item.own v19 (x18 : (List Int)), Item.own v18 (x16 : (List (Int × Int × Int × Bool))), Item.own v17 (x14.1 : (List Int)), Item.box b4 [v14, (.int .i64 x10.1.2.1), (.int .i64 x10.1.2.2)], Item.own v14 (x10.1.1 : (List Int)), Item.own v13 (x10.2 : (List (Int × Int × Int × Bool))), Item.box b3 [v9, (.int .i64 x7.2.1), (.int .i64 x7.2.2)], Item.box b2 [v7, (.int .i64 x6.1.2.1), (.int .i64 x6.1.2.2)], Item.own v7 (x6.1.1 : (List Int)), Item.own v6 (x6.2 : (List (Int × Int × Int × Bool)))] := hC62.front 13 rfl
                        have hC65 : Ctx [] w0 _ [Item.own v6 (x6.2 : (List (Int × Int × Int × Bool))), Item.box b1 [u1, (.int .i64 a1.2.1), (.int .i64 a1.2.2)], Item.own v11 (x22.2 : (List Int)), Item.own v10 (x21.2 : (List (Int × Int × Int × Bool))), Item.own v9 (x20.2.1 : (List Int)), Item.own v19 (x18 : (List Int)), Item.own v18 (x16 : (List (Int × Int × Int × Bool))), Item.own v17 (x14.1 : (List Int)), Item.box b4 [v14, (.int .i64 x10.1.2.1), (.int .i64 x10.1.2.2)], Item.own v14 (x10.1.1 : (List Int)), Item.own v13 (x10.2 : (List (Int × Int × Int × Bool))), Item.box b3 [v9, (.int .i64 x7.2.1), (.int .i64 x7.2.2)], Item.box b2 [v7, (.int .i64 x6.1.2.1), (.int .i64 x6.1.2.2)], Item.own v7 (x6.1.1 : (List Int))] := hC64.front 13 rfl
                        have hC66 : Ctx [] w0 _ [Item.own v7 (x6.1.1 : (List Int)), Item.own v6 (x6.2 : (List (Int × Int × Int × Bool))), Item.box b1 [u1, (.int .i64 a1.2.1), (.int .i64 a1.2.2)], Item.own v11 (x22.2 : (List Int)), Item.own v10 (x21.2 : (List (Int × Int × Int × Bool))), Item.own v9 (x20.2.1 : (List Int)), Item.own v19 (x18 : (List Int)), Item.own v18 (x16 : (List (Int × Int × Int × Bool))), Item.own v17 (x14.1 : (List Int)), Item.box b4 [v14, (.int .i64 x10.1.2.1), (.int .i64 x10.1.2.2)], Item.own v14 (x10.1.1 : (List Int)), Item.own v13 (x10.2 : (List (Int × Int × Int × Bool))), Item.box b3 [v9, (.int .i64 x7.2.1), (.int .i64 x7.2.2)], Item.box b2 [v7, (.int .i64 x6.1.2.1), (.int .i64 x6.1.2.2)]] := hC65.front 13 rfl
                        have hC67 : Ctx [] w0 _ [Item.box b2 [v7, (.int .i64 x6.1.2.1), (.int .i64 x6.1.2.2)], Item.own v7 (x6.1.1 : (List Int)), Item.own v6 (x6.2 : (List (Int × Int × Int × Bool))), Item.box b1 [u1, (.int .i64 a1.2.1), (.int .i64 a1.2.2)], Item.own v11 (x22.2 : (List Int)), Item.own v10 (x21.2 : (List (Int × Int × Int × Bool))), Item.own v9 (x20.2.1 : (List Int)), Item.own v19 (x18 : (List Int)), Item.own v18 (x16 : (List (Int × Int × Int × Bool))), Item.own v17 (x14.1 : (List Int)), Item.box b4 [v14, (.int .i64 x10.1.2.1), (.int .i64 x10.1.2.2)], Item.own v14 (x10.1.1 : (List Int)), Item.own v13 (x10.2 : (List (Int × Int × Int × Bool))), Item.box b3 [v9, (.int .i64 x7.2.1), (.int .i64 x7.2.2)]] := hC66.front 13 rfl
                        have hC68 : Ctx [] w0 _ [Item.own v13 (x10.2 : (List (Int × Int × Int × Bool))), Item.box b2 [v7, (.int .i64 x6.1.2.1), (.int .i64 x6.1.2.2)], Item.own v7 (x6.1.1 : (List Int)), Item.own v6 (x6.2 : (List (Int × Int × Int × Bool))), Item.box b1 [u1, (.int .i64 a1.2.1), (.int .i64 a1.2.2)], Item.own v11 (x22.2 : (List Int)), Item.own v10 (x21.2 : (List (Int × Int × Int × Bool))), Item.own v9 (x20.2.1 : (List Int)), Item.own v19 (x18 : (List Int)), Item.own v18 (x16 : (List (Int × Int × Int × Bool))), Item.own v17 (x14.1 : (List Int)), Item.box b4 [v14, (.int .i64 x10.1.2.1), (.int .i64 x10.1.2.2)], Item.own v14 (x10.1.1 : (List Int)), Item.box b3 [v9, (.int .i64 x7.2.1), (.int .i64 x7.2.2)]] := hC67.front 12 rfl
                        have hC69 : Ctx [] w0 _ [Item.own v14 (x10.1.1 : (List Int)), Item.own v13 (x10.2 : (List (Int × Int × Int × Bool))), Item.box b2 [v7, (.int .i64 x6.1.2.1), (.int .i64 x6.1.2.2)], Item.own v7 (x6.1.1 : (List Int)), Item.own v6 (x6.2 : (List (Int × Int × Int × Bool))), Item.box b1 [u1, (.int .i64 a1.2.1), (.int .i64 a1.2.2)], Item.own v11 (x22.2 : (List Int)), Item.own v10 (x21.2 : (List (Int × Int × Int × Bool))), Item.own v9 (x20.2.1 : (List Int)), Item.own v19 (x18 : (List Int)), Item.own v18 (x16 : (List (Int × Int × Int × Bool))), Item.own v17 (x14.1 : (List Int)), Item.box b4 [v14, (.int .i64 x10.1.2.1), (.int .i64 x10.1.2.2)], Item.box b3 [v9, (.int .i64 x7.2.1), (.int .i64 x7.2.2)]] := hC68.front 12 rfl
                        have hC70 : Ctx [] w0 _ [Item.box b4 [v14, (.int .i64 x10.1.2.1), (.int .i64 x10.1.2.2)], Item.own v14 (x10.1.1 : (List Int)), Item.own v13 (x10.2 : (List (Int × Int × Int × Bool))), Item.box b2 [v7, (.int .i64 x6.1.2.1), (.int .i64 x6.1.2.2)], Item.own v7 (x6.1.1 : (List Int)), Item.own v6 (x6.2 : (List (Int × Int × Int × Bool))), Item.box b1 [u1, (.int .i64 a1.2.1), (.int .i64 a1.2.2)], Item.own v11 (x22.2 : (List Int)), Item.own v10 (x21.2 : (List (Int × Int × Int × Bool))), Item.own v9 (x20.2.1 : (List Int)), Item.own v19 (x18 : (List Int)), Item.own v18 (x16 : (List (Int × Int × Int × Bool))), Item.own v17 (x14.1 : (List Int)), Item.box b3 [v9, (.int .i64 x7.2.1), (.int .i64 x7.2.2)]] := hC69.front 12 rfl
                        have hC71 : Ctx [] w0 _ [Item.box b4 [v14, (.int .i64 x10.1.2.1), (.int .i64 x10.1.2.2)], Item.own v14 (x10.1.1 : (List Int)), Item.own v13 (x10.2 : (List (Int × Int × Int × Bool))), Item.box b2 [v7, (.int .i64 x6.1.2.1), (.int .i64 x6.1.2.2)], Item.own v7 (x6.1.1 : (List Int)), Item.own v6 (x6.2 : (List (Int × Int × Int × Bool))), Item.box b1 [u1, (.int .i64 a1.2.1), (.int .i64 a1.2.2)]] := hC70.headN 7
                        refine nrm_sub (l' := [(1, u2), (2, u3), (3, (ptr b1 0)), (8, (ptr b2 0)), (9, v6), (13, (ptr b4 0)), (14, v13), (103, (.bool true))]) ⟨rfl, rfl, rfl, rfl, rfl, rfl, rfl, rfl, trivial⟩ ?_
                        exact ⟨true, rfl, rfl, (Below.refl _ _), hC71⟩
                      · replace hr23 := ite_f hr23 hc9
                        refine WL_guard rfl rfl ?_
                        refine WL_load_box_agg [v14, (.int .i64 x10.1.2.1), (.int .i64 x10.1.2.2)] hC62 6 rfl rfl rfl Try.isAgg26 Try.sizeOf26 rfl rfl ?_
                        refine WL_guard rfl rfl ?_
                        refine WL_load_box_agg [v7, (.int .i64 x6.1.2.1), (.int .i64 x6.1.2.2)] hC62 10 rfl rfl rfl Try.isAgg26 Try.sizeOf26 rfl rfl ?_
                        obtain ⟨x24, hr24, hr23⟩ := bind_some hr23
                        refine WL_guard rfl rfl ?_
                        refine WL_call Try.call19 rfl rfl (c_Q_eqLedger (x10.1.1, x10.1.2.1, x10.1.2.2) v14 ((hC62.ro 7 rfl).now (Keep.refl _ _)) (x6.1.1, x6.1.2.1, x6.1.2.2) v7 ((hC62.ro 11 rfl).now (Keep.refl _ _)) x24 hr24) ?_
                        intro _ w34 hv21
                        obtain ⟨rfl, hB28⟩ := res_bool hv21
                        have hC72 := hC62.grow hB28
                        refine WL_guard rfl rfl ?_
                        refine WL_not rfl rfl ?_
                        refine WL_pick_f rfl rfl rfl ?_
                        refine WL_move rfl rfl ?_
                        refine WL_fork (fun hc10 => ?_) (fun hc10 => ?_)
                        · replace hr23 := ite_t hr23 hc10
                          refine WL_guard_skip rfl rfl (by simp) rfl ?_
                          refine WL_guard_skip rfl rfl (by simp) rfl ?_
                          refine WL_guard_skip rfl rfl (by simp) rfl ?_
                          refine WL_guard_skip rfl rfl (by simp) rfl ?_
                          refine WL_pick_t rfl rfl rfl ?_
                          refine WL_nil ?_
                          have hq14 := Option.some.inj hr23
                          subst hq14
                          have hC73 : Ctx [] w0 _ [Item.box b1 [u1, (.int .i64 a1.2.1), (.int .i64 a1.2.2)], Item.own v11 (x22.2 : (List Int)), Item.own v10 (x21.2 : (List (Int × Int × Int × Bool))), Item.own v9 (x20.2.1 : (List Int)), Item.own v19 (x18 : (List Int)), Item.own v18 (x16 : (List (Int × Int × Int × Bool))), Item.own v17 (x14.1 : (List Int)), Item.box b4 [v14, (.int .i64 x10.1.2.1), (.int .i64 x10.1.2.2)], Item.own v14 (x10.1.1 : (List Int)), Item.own v13 (x10.2 : (List (Int × Int × Int × Bool))), Item.box b3 [v9, (.int .i64 x7.2.1), (.int .i64 x7.2.2)], Item.box b2 [v7, (.int .i64 x6.1.2.1), (.int .i64 x6.1.2.2)], Item.own v7 (x6.1.1 : (List Int)), Item.own v6 (x6.2 : (List (Int × Int × Int × Bool)))] := hC72.front 13 rfl
                          have hC74 : Ctx [] w0 _ [Item.own v6 (x6.2 : (List (Int × Int × Int × Bool))), Item.box b1 [u1, (.int .i64 a1.2.1), (.int .i64 a1.2.2)], Item.own v11 (x22.2 : (List Int)), Item.own v10 (x21.2 : (List (Int × Int × Int × Bool))), Item.own v9 (x20.2.1 : (List Int)), Item.own v19 (x18 : (List Int)), Item.own v18 (x16 : (List (Int × Int × Int × Bool))), Item.own v17 (x14.1 : (List Int)), Item.box b4 [v14, (.int .i64 x10.1.2.1), (.int .i64 x10.1.2.2)], Item.own v14 (x10.1.1 : (List Int)), Item.own v13 (x10.2 : (List (Int × Int × Int × Bool))), Item.box b3 [v9, (.int .i64 x7.2.1), (.int .i64 x7.2.2)], Item.box b2 [v7, (.int .i64 x6.1.2.1), (.int .i64 x6.1.2.2)], Item.own v7 (x6.1.1 : (List Int))] := hC73.front 13 rfl
                          have hC75 : Ctx [] w0 _ [Item.own v7 (x6.1.1 : (List Int)), Item.own v6 (x6.2 : (List (Int × Int × Int × Bool))), Item.box b1 [u1, (.int .i64 a1.2.1), (.int .i64 a1.2.2)], Item.own v11 (x22.2 : (List Int)), Item.own v10 (x21.2 : (List (Int × Int × Int × Bool))), Item.own v9 (x20.2.1 : (List Int)), Item.own v19 (x18 : (List Int)), Item.own v18 (x16 : (List (Int × Int × Int × Bool))), Item.own v17 (x14.1 : (List Int)), Item.box b4 [v14, (.int .i64 x10.1.2.1), (.int .i64 x10.1.2.2)], Item.own v14 (x10.1.1 : (List Int)), Item.own v13 (x10.2 : (List (Int × Int × Int × Bool))), Item.box b3 [v9, (.int .i64 x7.2.1), (.int .i64 x7.2.2)], Item.box b2 [v7, (.int .i64 x6.1.2.1), (.int .i64 x6.1.2.2)]] := hC74.front 13 rfl
                          have hC76 : Ctx [] w0 _ [Item.box b2 [v7, (.int .i64 x6.1.2.1), (.int .i64 x6.1.2.2)], Item.own v7 (x6.1.1 : (List Int)), Item.own v6 (x6.2 : (List (Int × Int × Int × Bool))), Item.box b1 [u1, (.int .i64 a1.2.1), (.int .i64 a1.2.2)], Item.own v11 (x22.2 : (List Int)), Item.own v10 (x21.2 : (List (Int × Int × Int × Bool))), Item.own v9 (x20.2.1 : (List Int)), Item.own v19 (x18 : (List Int)), Item.own v18 (x16 : (List (Int × Int × Int × Bool))), Item.own v17 (x14.1 : (List Int)), Item.box b4 [v14, (.int .i64 x10.1.2.1), (.int .i64 x10.1.2.2)], Item.own v14 (x10.1.1 : (List Int)), Item.own v13 (x10.2 : (List (Int × Int × Int × Bool))), Item.box b3 [v9, (.int .i64 x7.2.1), (.int .i64 x7.2.2)]] := hC75.front 13 rfl
                          have hC77 : Ctx [] w0 _ [Item.own v13 (x10.2 : (List (Int × Int × Int × Bool))), Item.box b2 [v7, (.int .i64 x6.1.2.1), (.int .i64 x6.1.2.2)], Item.own v7 (x6.1.1 : (List Int)), Item.own v6 (x6.2 : (List (Int × Int × Int × Bool))), Item.box b1 [u1, (.int .i64 a1.2.1), (.int .i64 a1.2.2)], Item.own v11 (x22.2 : (List Int)), Item.own v10 (x21.2 : (List (Int × Int × Int × Bool))), Item.own v9 (x20.2.1 : (List Int)), Item.own v19 (x18 : (List Int)), Item.own v18 (x16 : (List (Int × Int × Int × Bool))), Item.own v17 (x14.1 : (List Int)), Item.box b4 [v14, (.int .i64 x10.1.2.1), (.int .i64 x10.1.2.2)], Item.own v14 (x10.1.1 : (List Int)), Item.box b3 [v9, (.int .i64 x7.2.1), (.int .i64 x7.2.2)]] := hC76.front 12 rfl
                          have hC78 : Ctx [] w0 _ [Item.own v14 (x10.1.1 : (List Int)), Item.own v13 (x10.2 : (List (Int × Int × Int × Bool))), Item.box b2 [v7, (.int .i64 x6.1.2.1), (.int .i64 x6.1.2.2)], Item.own v7 (x6.1.1 : (List Int)), Item.own v6 (x6.2 : (List (Int × Int × Int × Bool))), Item.box b1 [u1, (.int .i64 a1.2.1), (.int .i64 a1.2.2)], Item.own v11 (x22.2 : (List Int)), Item.own v10 (x21.2 : (List (Int × Int × Int × Bool))), Item.own v9 (x20.2.1 : (List Int)), Item.own v19 (x18 : (List Int)), Item.own v18 (x16 : (List (Int × Int × Int × Bool))), Item.own v17 (x14.1 : (List Int)), Item.box b4 [v14, (.int .i64 x10.1.2.1), (.int .i64 x10.1.2.2)], Item.box b3 [v9, (.int .i64 x7.2.1), (.int .i64 x7.2.2)]] := hC77.front 12 rfl
                          have hC79 : Ctx [] w0 _ [Item.box b4 [v14, (.int .i64 x10.1.2.1), (.int .i64 x10.1.2.2)], Item.own v14 (x10.1.1 : (List Int)), Item.own v13 (x10.2 : (List (Int × Int × Int × Bool))), Item.box b2 [v7, (.int .i64 x6.1.2.1), (.int .i64 x6.1.2.2)], Item.own v7 (x6.1.1 : (List Int)), Item.own v6 (x6.2 : (List (Int × Int × Int × Bool))), Item.box b1 [u1, (.int .i64 a1.2.1), (.int .i64 a1.2.2)], Item.own v11 (x22.2 : (List Int)), Item.own v10 (x21.2 : (List (Int × Int × Int × Bool))), Item.own v9 (x20.2.1 : (List Int)), Item.own v19 (x18 : (List Int)), Item.own v18 (x16 : (List (Int × Int × Int × Bool))), Item.own v17 (x14.1 : (List Int)), Item.box b3 [v9, (.int .i64 x7.2.1), (.int .i64 x7.2.2)]] := hC78.front 12 rfl
                          have hC80 : Ctx [] w0 _ [Item.box b4 [v14, (.int .i64 x10.1.2.1), (.int .i64 x10.1.2.2)], Item.own v14 (x10.1.1 : (List Int)), Item.own v13 (x10.2 : (List (Int × Int × Int × Bool))), Item.box b2 [v7, (.int .i64 x6.1.2.1), (.int .i64 x6.1.2.2)], Item.own v7 (x6.1.1 : (List Int)), Item.own v6 (x6.2 : (List (Int × Int × Int × Bool))), Item.box b1 [u1, (.int .i64 a1.2.1), (.int .i64 a1.2.2)]] := hC79.headN 7
                          refine nrm_sub (l' := [(1, u2), (2, u3), (3, (ptr b1 0)), (8, (ptr b2 0)), (9, v6), (13, (ptr b4 0)), (14, v13), (103, (.bool true))]) ⟨rfl, rfl, rfl, rfl, rfl, rfl, rfl, rfl, trivial⟩ ?_
                          exact ⟨true, rfl, rfl, (Keep.of hB28).below, hC80⟩
                        · replace hr23 := ite_f hr23 hc10
                          refine WL_guard rfl rfl ?_
                          refine WL_move rfl rfl ?_
                          refine WL_guard rfl rfl ?_
                          refine WL_move rfl rfl ?_
                          obtain ⟨x25, hr25, hr23⟩ := bind_some hr23
                          refine WL_guard rfl rfl ?_
                          refine WL_call Try.call48 rfl rfl (c_Q_eqCallS x10.2 v13 ((hC72.ro 8 rfl).now (Keep.refl _ _)) x6.2 v6 ((hC72.ro 12 rfl).now (Keep.refl _ _)) x25 hr25) ?_
                          intro _ w35 hv22
                          obtain ⟨rfl, hB29⟩ := res_bool hv22
                          have hC81 := hC72.grow hB29
                          refine WL_guard rfl rfl ?_
                          refine WL_not rfl rfl ?_
                          refine WL_pick_f rfl rfl rfl ?_
                          refine WL_nil ?_
                          have hq15 := Option.some.inj hr23
                          subst hq15
                          have hC82 : Ctx [] w0 _ [Item.box b1 [u1, (.int .i64 a1.2.1), (.int .i64 a1.2.2)], Item.own v11 (x22.2 : (List Int)), Item.own v10 (x21.2 : (List (Int × Int × Int × Bool))), Item.own v9 (x20.2.1 : (List Int)), Item.own v19 (x18 : (List Int)), Item.own v18 (x16 : (List (Int × Int × Int × Bool))), Item.own v17 (x14.1 : (List Int)), Item.box b4 [v14, (.int .i64 x10.1.2.1), (.int .i64 x10.1.2.2)], Item.own v14 (x10.1.1 : (List Int)), Item.own v13 (x10.2 : (List (Int × Int × Int × Bool))), Item.box b3 [v9, (.int .i64 x7.2.1), (.int .i64 x7.2.2)], Item.box b2 [v7, (.int .i64 x6.1.2.1), (.int .i64 x6.1.2.2)], Item.own v7 (x6.1.1 : (List Int)), Item.own v6 (x6.2 : (List (Int × Int × Int × Bool)))] := hC81.front 13 rfl
                          have hC83 : Ctx [] w0 _ [Item.own v6 (x6.2 : (List (Int × Int × Int × Bool))), Item.box b1 [u1, (.int .i64 a1.2.1), (.int .i64 a1.2.2)], Item.own v11 (x22.2 : (List Int)), Item.own v10 (x21.2 : (List (Int × Int × Int × Bool))), Item.own v9 (x20.2.1 : (List Int)), Item.own v19 (x18 : (List Int)), Item.own v18 (x16 : (List (Int × Int × Int × Bool))), Item.own v17 (x14.1 : (List Int)), Item.box b4 [v14, (.int .i64 x10.1.2.1), (.int .i64 x10.1.2.2)], Item.own v14 (x10.1.1 : (List Int)), Item.own v13 (x10.2 : (List (Int × Int × Int × Bool))), Item.box b3 [v9, (.int .i64 x7.2.1), (.int .i64 x7.2.2)], Item.box b2 [v7, (.int .i64 x6.1.2.1), (.int .i64 x6.1.2.2)], Item.own v7 (x6.1.1 : (List Int))] := hC82.front 13 rfl
                          have hC84 : Ctx [] w0 _ [Item.own v7 (x6.1.1 : (List Int)), Item.own v6 (x6.2 : (List (Int × Int × Int × Bool))), Item.box b1 [u1, (.int .i64 a1.2.1), (.int .i64 a1.2.2)], Item.own v11 (x22.2 : (List Int)), Item.own v10 (x21.2 : (List (Int × Int × Int × Bool))), Item.own v9 (x20.2.1 : (List Int)), Item.own v19 (x18 : (List Int)), Item.own v18 (x16 : (List (Int × Int × Int × Bool))), Item.own v17 (x14.1 : (List Int)), Item.box b4 [v14, (.int .i64 x10.1.2.1), (.int .i64 x10.1.2.2)], Item.own v14 (x10.1.1 : (List Int)), Item.own v13 (x10.2 : (List (Int × Int × Int × Bool))), Item.box b3 [v9, (.int .i64 x7.2.1), (.int .i64 x7.2.2)], Item.box b2 [v7, (.int .i64 x6.1.2.1), (.int .i64 x6.1.2.2)]] := hC83.front 13 rfl
                          have hC85 : Ctx [] w0 _ [Item.box b2 [v7, (.int .i64 x6.1.2.1), (.int .i64 x6.1.2.2)], Item.own v7 (x6.1.1 : (List Int)), Item.own v6 (x6.2 : (List (Int × Int × Int × Bool))), Item.box b1 [u1, (.int .i64 a1.2.1), (.int .i64 a1.2.2)], Item.own v11 (x22.2 : (List Int)), Item.own v10 (x21.2 : (List (Int × Int × Int × Bool))), Item.own v9 (x20.2.1 : (List Int)), Item.own v19 (x18 : (List Int)), Item.own v18 (x16 : (List (Int × Int × Int × Bool))), Item.own v17 (x14.1 : (List Int)), Item.box b4 [v14, (.int .i64 x10.1.2.1), (.int .i64 x10.1.2.2)], Item.own v14 (x10.1.1 : (List Int)), Item.own v13 (x10.2 : (List (Int × Int × Int × Bool))), Item.box b3 [v9, (.int .i64 x7.2.1), (.int .i64 x7.2.2)]] := hC84.front 13 rfl
                          have hC86 : Ctx [] w0 _ [Item.own v13 (x10.2 : (List (Int × Int × Int × Bool))), Item.box b2 [v7, (.int .i64 x6.1.2.1), (.int .i64 x6.1.2.2)], Item.own v7 (x6.1.1 : (List Int)), Item.own v6 (x6.2 : (List (Int × Int × Int × Bool))), Item.box b1 [u1, (.int .i64 a1.2.1), (.int .i64 a1.2.2)], Item.own v11 (x22.2 : (List Int)), Item.own v10 (x21.2 : (List (Int × Int × Int × Bool))), Item.own v9 (x20.2.1 : (List Int)), Item.own v19 (x18 : (List Int)), Item.own v18 (x16 : (List (Int × Int × Int × Bool))), Item.own v17 (x14.1 : (List Int)), Item.box b4 [v14, (.int .i64 x10.1.2.1), (.int .i64 x10.1.2.2)], Item.own v14 (x10.1.1 : (List Int)), Item.box b3 [v9, (.int .i64 x7.2.1), (.int .i64 x7.2.2)]] := hC85.front 12 rfl
                          have hC87 : Ctx [] w0 _ [Item.own v14 (x10.1.1 : (List Int)), Item.own v13 (x10.2 : (List (Int × Int × Int × Bool))), Item.box b2 [v7, (.int .i64 x6.1.2.1), (.int .i64 x6.1.2.2)], Item.own v7 (x6.1.1 : (List Int)), Item.own v6 (x6.2 : (List (Int × Int × Int × Bool))), Item.box b1 [u1, (.int .i64 a1.2.1), (.int .i64 a1.2.2)], Item.own v11 (x22.2 : (List Int)), Item.own v10 (x21.2 : (List (Int × Int × Int × Bool))), Item.own v9 (x20.2.1 : (List Int)), Item.own v19 (x18 : (List Int)), Item.own v18 (x16 : (List (Int × Int × Int × Bool))), Item.own v17 (x14.1 : (List Int)), Item.box b4 [v14, (.int .i64 x10.1.2.1), (.int .i64 x10.1.2.2)], Item.box b3 [v9, (.int .i64 x7.2.1), (.int .i64 x7.2.2)]] := hC86.front 12 rfl
                          have hC88 : Ctx [] w0 _ [Item.box b4 [v14, (.int .i64 x10.1.2.1), (.int .i64 x10.1.2.2)], Item.own v14 (x10.1.1 : (List Int)), Item.own v13 (x10.2 : (List (Int × Int × Int × Bool))), Item.box b2 [v7, (.int .i64 x6.1.2.1), (.int .i64 x6.1.2.2)], Item.own v7 (x6.1.1 : (List Int)), Item.own v6 (x6.2 : (List (Int × Int × Int × Bool))), Item.box b1 [u1, (.int .i64 a1.2.1), (.int .i64 a1.2.2)], Item.own v11 (x22.2 : (List Int)), Item.own v10 (x21.2 : (List (Int × Int × Int × Bool))), Item.own v9 (x20.2.1 : (List Int)), Item.own v19 (x18 : (List Int)), Item.own v18 (x16 : (List (Int × Int × Int × Bool))), Item.own v17 (x14.1 : (List Int)), Item.box b3 [v9, (.int .i64 x7.2.1), (.int .i64 x7.2.2)]] := hC87.front 12 rfl
                          have hC89 : Ctx [] w0 _ [Item.box b4 [v14, (.int .i64 x10.1.2.1), (.int .i64 x10.1.2.2)], Item.own v14 (x10.1.1 : (List Int)), Item.own v13 (x10.2 : (List (Int × Int × Int × Bool))), Item.box b2 [v7, (.int .i64 x6.1.2.1), (.int .i64 x6.1.2.2)], Item.own v7 (x6.1.1 : (List Int)), Item.own v6 (x6.2 : (List (Int × Int × Int × Bool))), Item.box b1 [u1, (.int .i64 a1.2.1), (.int .i64 a1.2.2)]] := hC88.headN 7
                          refine nrm_sub (l' := [(1, u2), (2, u3), (3, (ptr b1 0)), (8, (ptr b2 0)), (9, v6), (13, (ptr b4 0)), (14, v13), (103, (.bool (!x25)))]) ⟨rfl, rfl, rfl, rfl, rfl, rfl, rfl, rfl, trivial⟩ ?_
                          exact ⟨(!x25), rfl, rfl, ((Keep.of hB28).then hB29).below, hC89⟩
                    · rintro _ w33 ⟨x23, rfl, rfl, hB27, hC63⟩
                      try dsimp only at hF
                      refine W_cond rfl (fun hc11 => ?_) (fun hc11 => ?_)
                      · replace hF := ite_t hF hc11
                        refine W_seq_reg ?_
                        refine WL_assign rfl rfl ?_
                        refine WL_nil ?_
                        refine W_ret ?_
                        refine nrm_ret ?_
                        have hq16 := Option.some.inj hF
                        subst hq16
                        refine fn_ret1 rfl rfl ?_
                        exact ⟨_, rfl, bool_res hC63 _⟩
                      · replace hF := ite_f hF hc11
                        refine W_skip ?_
                        refine nrm_normal ?_
                        refine W_seq_reg ?_
                        refine WL_assign rfl rfl ?_
                        refine WL_nil ?_
                        refine W_seq_reg ?_
                        refine WL_load_box_agg [v14, (.int .i64 x10.1.2.1), (.int .i64 x10.1.2.2)] hC63 0 rfl rfl rfl Try.isAgg26 Try.sizeOf26 rfl rfl ?_
                        refine WL_move rfl rfl ?_
                        obtain ⟨x26, hr26, hF⟩ := bind_some hF
                        have hC90 : Ctx [] w0 _ [Item.own v14 (x10.1.1 : (List Int)), Item.box b4 [v14, (.int .i64 x10.1.2.1), (.int .i64 x10.1.2.2)], Item.own v13 (x10.2 : (List (Int × Int × Int × Bool))), Item.box b2 [v7, (.int .i64 x6.1.2.1), (.int .i64 x6.1.2.2)], Item.own v7 (x6.1.1 : (List Int)), Item.own v6 (x6.2 : (List (Int × Int × Int × Bool))), Item.box b1 [u1, (.int .i64 a1.2.1), (.int .i64 a1.2.2)]] := hC63.front 1 rfl
                        obtain ⟨Fs4, hH4, hn16, hF4, hO4, hb16⟩ := Ctx.lend2 (As := [Item.box b4 [v14, (.int .i64 x10.1.2.1), (.int .i64 x10.1.2.2)], Item.own v13 (x10.2 : (List (Int × Int × Int × Bool))), Item.box b2 [v7, (.int .i64 x6.1.2.1), (.int .i64 x6.1.2.2)], Item.own v7 (x6.1.1 : (List Int)), Item.own v6 (x6.2 : (List (Int × Int × Int × Bool))), Item.box b1 [u1, (.int .i64 a1.2.1), (.int .i64 a1.2.2)]]) [Item.own v14 (x10.1.1 : (List Int))] hC90
                        refine WL_call Try.call20 rfl rfl (c_Q_markLedger (x10.1.1, x10.1.2.1, x10.1.2.2) v14 1 hH4 hn16 x26 hr26) ?_
                        rintro _ w36 ⟨rfl, hq17⟩
                        have hC91 : Ctx [] w0 w36 [Item.own v14 (x26.2.1 : (List Int)), Item.box b4 [v14, (.int .i64 x10.1.2.1), (.int .i64 x10.1.2.2)], Item.own v13 (x10.2 : (List (Int × Int × Int × Bool))), Item.box b2 [v7, (.int .i64 x6.1.2.1), (.int .i64 x6.1.2.2)], Item.own v7 (x6.1.1 : (List Int)), Item.own v6 (x6.2 : (List (Int × Int × Int × Bool))), Item.box b1 [u1, (.int .i64 a1.2.1), (.int .i64 a1.2.2)]] := hb16 _ _ hq17
                        refine WL_assign rfl rfl ?_
                        refine WL_nil ?_
                        refine W_seq_reg ?_
                        refine WL_move rfl rfl ?_
                        refine WL_move rfl rfl ?_
                        obtain ⟨x27, hr27, hF⟩ := bind_some hF
                        have hC92 : Ctx [] w0 _ [Item.own v13 (x10.2 : (List (Int × Int × Int × Bool))), Item.own v14 (x26.2.1 : (List Int)), Item.box b4 [v14, (.int .i64 x10.1.2.1), (.int .i64 x10.1.2.2)], Item.box b2 [v7, (.int .i64 x6.1.2.1), (.int .i64 x6.1.2.2)], Item.own v7 (x6.1.1 : (List Int)), Item.own v6 (x6.2 : (List (Int × Int × Int × Bool))), Item.box b1 [u1, (.int .i64 a1.2.1), (.int .i64 a1.2.2)]] := hC91.front 2 rfl
                        obtain ⟨Fs5, hH5, hn17, hF5, hO5, hb17⟩ := Ctx.lend2 (As := [Item.own v14 (x26.2.1 : (List Int)), Item.box b4 [v14, (.int .i64 x10.1.2.1), (.int .i64 x10.1.2.2)], Item.box b2 [v7, (.int .i64 x6.1.2.1), (.int .i64 x6.1.2.2)], Item.own v7 (x6.1.1 : (List Int)), Item.own v6 (x6.2 : (List (Int × Int × Int × Bool))), Item.box b1 [u1, (.int .i64 a1.2.1), (.int .i64 a1.2.2)]]) [Item.own v13 (x10.2 : (List (Int × Int × Int × Bool)))] hC92
                        refine WL_call Try.call49 rfl rfl (c_Q_markCallS x10.2 v13 x26.1 hH5 hn17 x27 hr27) ?_
                        rintro _ w37 ⟨rfl, hq18⟩
                        have hC93 : Ctx [] w0 w37 [Item.own v13 (x27.2 : (List (Int × Int × Int × Bool))), Item.own v14 (x26.2.1 : (List Int)), Item.box b4 [v14, (.int .i64 x10.1.2.1), (.int .i64 x10.1.2.2)], Item.box b2 [v7, (.int .i64 x6.1.2.1), (.int .i64 x6.1.2.2)], Item.own v7 (x6.1.1 : (List Int)), Item.own v6 (x6.2 : (List (Int × Int × Int × Bool))), Item.box b1 [u1, (.int .i64 a1.2.1), (.int .i64 a1.2.2)]] := hb17 _ _ hq18
                        refine WL_assign rfl rfl ?_
                        refine WL_nil ?_
                        refine W_seq_reg ?_
                        refine WL_assign rfl rfl ?_
                        refine WL_nil ?_
                        refine W_seq_reg ?_
                        refine WL_load_box_agg [v14, (.int .i64 x10.1.2.1), (.int .i64 x10.1.2.2)] hC93 2 rfl rfl rfl Try.isAgg26 Try.sizeOf26 rfl rfl ?_
                        refine WL_move rfl rfl ?_
                        obtain ⟨x28, hr28, hF⟩ := bind_some hF
                        refine WL_call Try.call21 rfl rfl (c_Q_heldLedger (x26.2.1, x10.1.2.1, x10.1.2.2) v14 ((hC93.ro 1 rfl).now (Keep.refl _ _)) 1 x28 hr28) ?_
                        intro _ w38 hv23
                        obtain ⟨rfl, hB30⟩ := res_int hv23
                        have hC94 := hC93.grow hB30
                        refine WL_assign rfl rfl ?_
                        refine WL_nil ?_
                        refine W_seq ?_
                        refine W_seq_reg ?_
                        refine WL_move rfl rfl ?_
                        refine WL_lss rfl rfl rfl ?_
                        refine WL_nil ?_
                        refine W_cond rfl (fun hc12 => ?_) (fun hc12 => ?_)
                        · replace hF := ite_t hF hc12
                          refine W_seq_reg ?_
                          refine WL_assign rfl rfl ?_
                          refine WL_nil ?_
                          refine W_ret ?_
                          refine nrm_ret ?_
                          have hq19 := Option.some.inj hF
                          subst hq19
                          refine fn_ret1 rfl rfl ?_
                          exact ⟨_, rfl, bool_res hC94 _⟩
                        · replace hF := ite_f hF hc12
                          refine W_skip ?_
                          refine nrm_normal ?_
                          refine W_seq_reg ?_
                          refine WL_move rfl rfl ?_
                          refine WL_move rfl rfl ?_
                          obtain ⟨x29, hr29, hF⟩ := bind_some hF
                          refine WL_call Try.call50 rfl rfl (c_Q_heldCallS x27.2 v13 ((hC94.ro 0 rfl).now (Keep.refl _ _)) x28 x29 hr29) ?_
                          intro _ w39 hv24
                          obtain ⟨rfl, hB31⟩ := res_int hv24
                          have hC95 := hC94.grow hB31
                          refine WL_assign rfl rfl ?_
                          refine WL_nil ?_
                          refine W_seq ?_
                          refine W_seq_reg ?_
                          refine WL_move rfl rfl ?_
                          refine WL_lss rfl rfl rfl ?_
                          refine WL_nil ?_
                          refine W_cond rfl (fun hc13 => ?_) (fun hc13 => ?_)
                          · replace hF := ite_t hF hc13
                            refine W_seq_reg ?_
                            refine WL_assign rfl rfl ?_
                            refine WL_nil ?_
                            refine W_ret ?_
                            refine nrm_ret ?_
                            have hq20 := Option.some.inj hF
                            subst hq20
                            refine fn_ret1 rfl rfl ?_
                            exact ⟨_, rfl, bool_res hC95 _⟩
                          · replace hF := ite_f hF hc13
                            refine W_skip ?_
                            refine nrm_normal ?_
                            refine W_seq ?_
                            refine W_seq_reg ?_
                            refine WL_move rfl rfl ?_
                            refine WL_move rfl rfl ?_
                            refine WL_neq rfl rfl rfl ?_
                            refine WL_nil ?_
                            refine W_cond rfl (fun hc14 => ?_) (fun hc14 => ?_)
                            · replace hF := ite_t hF hc14
                              refine W_seq_reg ?_
                              refine WL_assign rfl rfl ?_
                              refine WL_nil ?_
                              refine W_ret ?_
                              refine nrm_ret ?_
                              have hq21 := Option.some.inj hF
                              subst hq21
                              refine fn_ret1 rfl rfl ?_
                              exact ⟨_, rfl, bool_res hC95 _⟩
                            · replace hF := ite_f hF hc14
                              refine W_skip ?_
                              refine nrm_normal ?_
                              refine W_seq_reg ?_
                              refine WL_load_box_agg [u1, (.int .i64 a1.2.1), (.int .i64 a1.2.2)] hC95 6 rfl rfl rfl Try.isAgg24 Try.sizeOf24 rfl rfl ?_
                              obtain ⟨x30, hr30, hF⟩ := bind_some hF
                              refine WL_call Try.call17 rfl rfl (c_Q_toLedger (a1.1, a1.2.1, a1.2.2) u1 (g1.now hC95.keep) x30 hr30) ?_
                              rintro v20 w40 ⟨hB32, F14, hv25, hn18, hb18⟩
                              have hC96 := hC95.push hB32 (A := Item.own v20 x30) hv25 hn18 hb18
                              obtain ⟨v21, rfl, hC97⟩ := st26_own hC96
                              refine WL_move rfl rfl ?_
                              obtain ⟨x31, hr31, hF⟩ := bind_some hF
                              refine WL_call Try.call47 rfl rfl (c_Q_toCallS a2 u2 (g2.now hC97.keep) x31 hr31) ?_
                              rintro v22 w41 ⟨hB33, F15, hv26, hn19, hb19⟩
                              have hC98 := hC97.push hB33 (A := Item.own v22 x31) hv26 hn19 hb19
                              refine WL_move rfl rfl ?_
                              obtain ⟨x32, hr32, hF⟩ := bind_some hF
                              refine WL_call Try.call37 rfl rfl (c_Q_toIntS a3 u3 (g3.now hC98.keep) x32 hr32) ?_
                              rintro v23 w42 ⟨hB34, F16, hv27, hn20, hb20⟩
                              have hC99 := hC98.push hB34 (A := Item.own v23 x32) hv27 hn20 hb20
                              obtain ⟨x33, hr33, hF⟩ := bind_some hF
                              refine WL_call Try.call44 rfl rfl (c_M_RunCalls x30 v21 ((hC99.ro 2 rfl).now (Keep.refl _ _)) x31 v22 ((hC99.ro 1 rfl).now (Keep.refl _ _)) x32 v23 ((hC99.ro 0 rfl).now (Keep.refl _ _)) x33 hr33) ?_
                              rintro _ w43 ⟨hB35, v24, v25, F17, F18, rfl, hv28, hv29, hn21, hb21⟩
                              have hC100 := hC99.pushL hB35 (Bs := [Item.own v24 x33.1, Item.own v25 x33.2]) (Fs := [F17, F18]) ⟨F17, _, rfl, hv28, F18, _, rfl, hv29, rfl⟩ (by simpa using hn21) (fun b h => hb21 b (by simpa using h))
                              obtain ⟨v26, rfl, hC101⟩ := st26_own hC100
                              refine WL_move rfl rfl ?_
                              refine WL_extract rfl rfl rfl ?_
                              refine WL_extract rfl rfl rfl ?_
                              refine WL_alloc hC101 zero26 rfl rfl (fun b5 w44 hC102 hB36 => ?_)
                              refine WL_store_box_agg (cs' := [v26, (.int .i64 x33.1.2.1), (.int .i64 x33.1.2.2)]) (new := [v26, (.int .i64 x33.1.2.1), (.int .i64 x33.1.2.2)]) hC102 0 rfl rfl (by intro v hv; simp only [List.mem_cons, List.not_mem_nil, or_false] at hv; rcases hv with rfl | rfl | rfl; exact (ro_one (hC102.ro 1 rfl)); exact rfl; exact rfl) rfl Try.sizeOf26 rfl rfl (fun w45 hC103 => ?_)
                              try dsimp only [List.set] at hC103
                              refine WL_assign rfl rfl ?_
                              refine WL_nil ?_
                              refine W_seq ?_
                              obtain ⟨r3, hr34, hF⟩ := bind_some hF
                              refine W_cut (fun l w => ∃ x34 : Bool, x34 = r3 ∧ l = [(13, (ptr b4 0)), (14, v13), (16, (.int .i64 x27.1)), (142, (.bool x34))] ∧ Below w45.heap.size w45 w ∧ Ctx [] w0 w [Item.own v13 (x27.2 : (List (Int × Int × Int × Bool))), Item.own v14 (x26.2.1 : (List Int)), Item.box b4 [v14, (.int .i64 x10.1.2.1), (.int .i64 x10.1.2.2)]]) ?_ ?_
                              · refine W_reg ?_
                                refine WL_load_box_agg [v26, (.int .i64 x33.1.2.1), (.int .i64 x33.1.2.2)] hC103 0 rfl rfl rfl Try.isAgg26 Try.sizeOf26 rfl rfl ?_
                                refine WL_load_box_agg [v7, (.int .i64 x6.1.2.1), (.int .i64 x6.1.2.2)] hC103 9 rfl rfl rfl Try.isAgg26 Try.sizeOf26 rfl rfl ?_
                                obtain ⟨x35, hr35, hr34⟩ := bind_some hr34
                                refine WL_call Try.call19 rfl rfl (c_Q_eqLedger (x33.1.1, x33.1.2.1, x33.1.2.2) v26 ((hC103.ro 1 rfl).now (Keep.refl _ _)) (x6.1.1, x6.1.2.1, x6.1.2.2) v7 ((hC103.ro 10 rfl).now (Keep.refl _ _)) x35 hr35) ?_
                                intro _ w47 hv30
                                obtain ⟨rfl, hB38⟩ := res_bool hv30
                                have hC105 := hC103.grow hB38
                                refine WL_not rfl rfl ?_
                                refine WL_move rfl rfl ?_
                                refine WL_fork (fun hc15 => ?_) (fun hc15 => ?_)
                                · replace hr34 := ite_t hr34 hc15
                                  refine WL_guard_skip rfl rfl (by simp) rfl ?_
                                  refine WL_guard_skip rfl rfl (by simp) rfl ?_
                                  refine WL_guard_skip rfl rfl (by simp) rfl ?_
                                  refine WL_guard_skip rfl rfl (by simp) rfl ?_
                                  refine WL_pick_t rfl rfl rfl ?_
                                  refine WL_nil ?_
                                  have hq22 := Option.some.inj hr34
                                  subst hq22
                                  have hC106 : Ctx [] w0 _ [Item.box b4 [v14, (.int .i64 x10.1.2.1), (.int .i64 x10.1.2.2)], Item.box b5 [v26, (.int .i64 x33.1.2.1), (.int .i64 x33.1.2.2)], Item.own v26 (x33.1.1 : (List Int)), Item.own v25 (x33.2 : (List (Int × Int × Int × Bool))), Item.own v23 (x32 : (List Int)), Item.own v22 (x31 : (List (Int × Int × Int × Bool))), Item.own v21 (x30.1 : (List Int)), Item.own v13 (x27.2 : (List (Int × Int × Int × Bool))), Item.own v14 (x26.2.1 : (List Int)), Item.box b2 [v7, (.int .i64 x6.1.2.1), (.int .i64 x6.1.2.2)], Item.own v7 (x6.1.1 : (List Int)), Item.own v6 (x6.2 : (List (Int × Int × Int × Bool))), Item.box b1 [u1, (.int .i64 a1.2.1), (.int .i64 a1.2.2)]] := hC105.front 8 rfl
                                  have hC107 : Ctx [] w0 _ [Item.own v14 (x26.2.1 : (List Int)), Item.box b4 [v14, (.int .i64 x10.1.2.1), (.int .i64 x10.1.2.2)], Item.box b5 [v26, (.int .i64 x33.1.2.1), (.int .i64 x33.1.2.2)], Item.own v26 (x33.1.1 : (List Int)), Item.own v25 (x33.2 : (List (Int × Int × Int × Bool))), Item.own v23 (x32 : (List Int)), Item.own v22 (x31 : (List (Int × Int × Int × Bool))), Item.own v21 (x30.1 : (List Int)), Item.own v13 (x27.2 : (List (Int × Int × Int × Bool))), Item.box b2 [v7, (.int .i64 x6.1.2.1), (.int .i64 x6.1.2.2)], Item.own v7 (x6.1.1 : (List Int)), Item.own v6 (x6.2 : (List (Int × Int × Int × Bool))), Item.box b1 [u1, (.int .i64 a1.2.1), (.int .i64 a1.2.2)]] := hC106.front 8 rfl
                                  have hC108 : Ctx [] w0 _ [Item.own v13 (x27.2 : (List (Int × Int × Int × Bool))), Item.own v14 (x26.2.1 : (List Int)), Item.box b4 [v14, (.int .i64 x10.1.2.1), (.int .i64 x10.1.2.2)], Item.box b5 [v26, (.int .i64 x33.1.2.1), (.int .i64 x33.1.2.2)], Item.own v26 (x33.1.1 : (List Int)), Item.own v25 (x33.2 : (List (Int × Int × Int × Bool))), Item.own v23 (x32 : (List Int)), Item.own v22 (x31 : (List (Int × Int × Int × Bool))), Item.own v21 (x30.1 : (List Int)), Item.box b2 [v7, (.int .i64 x6.1.2.1), (.int .i64 x6.1.2.2)], Item.own v7 (x6.1.1 : (List Int)), Item.own v6 (x6.2 : (List (Int × Int × Int × Bool))), Item.box b1 [u1, (.int .i64 a1.2.1), (.int .i64 a1.2.2)]] := hC107.front 8 rfl
                                  have hC109 : Ctx [] w0 _ [Item.own v13 (x27.2 : (List (Int × Int × Int × Bool))), Item.own v14 (x26.2.1 : (List Int)), Item.box b4 [v14, (.int .i64 x10.1.2.1), (.int .i64 x10.1.2.2)]] := hC108.headN 3
                                  refine nrm_sub (l' := [(13, (ptr b4 0)), (14, v13), (16, (.int .i64 x27.1)), (142, (.bool true))]) ⟨rfl, rfl, rfl, rfl, trivial⟩ ?_
                                  exact ⟨true, rfl, rfl, (Keep.of hB38).below, hC109⟩
                                · replace hr34 := ite_f hr34 hc15
                                  refine WL_guard rfl rfl ?_
                                  refine WL_move rfl rfl ?_
                                  refine WL_guard rfl rfl ?_
                                  refine WL_move rfl rfl ?_
                                  obtain ⟨x36, hr36, hr34⟩ := bind_some hr34
                                  refine WL_guard rfl rfl ?_
                                  refine WL_call Try.call48 rfl rfl (c_Q_eqCallS x33.2 v25 ((hC105.ro 2 rfl).now (Keep.refl _ _)) x6.2 v6 ((hC105.ro 11 rfl).now (Keep.refl _ _)) x36 hr36) ?_
                                  intro _ w48 hv31
                                  obtain ⟨rfl, hB39⟩ := res_bool hv31
                                  have hC110 := hC105.grow hB39
                                  refine WL_guard rfl rfl ?_
                                  refine WL_not rfl rfl ?_
                                  refine WL_pick_f rfl rfl rfl ?_
                                  refine WL_nil ?_
                                  have hq23 := Option.some.inj hr34
                                  subst hq23
                                  have hC111 : Ctx [] w0 _ [Item.box b4 [v14, (.int .i64 x10.1.2.1), (.int .i64 x10.1.2.2)], Item.box b5 [v26, (.int .i64 x33.1.2.1), (.int .i64 x33.1.2.2)], Item.own v26 (x33.1.1 : (List Int)), Item.own v25 (x33.2 : (List (Int × Int × Int × Bool))), Item.own v23 (x32 : (List Int)), Item.own v22 (x31 : (List (Int × Int × Int × Bool))), Item.own v21 (x30.1 : (List Int)), Item.own v13 (x27.2 : (List (Int × Int × Int × Bool))), Item.own v14 (x26.2.1 : (List Int)), Item.box b2 [v7, (.int .i64 x6.1.2.1), (.int .i64 x6.1.2.2)], Item.own v7 (x6.1.1 : (List Int)), Item.own v6 (x6.2 : (List (Int × Int × Int × Bool))), Item.box b1 [u1, (.int .i64 a1.2.1), (.int .i64 a1.2.2)]] := hC110.front 8 rfl
                                  have hC112 : Ctx [] w0 _ [Item.own v14 (x26.2.1 : (List Int)), Item.box b4 [v14, (.int .i64 x10.1.2.1), (.int .i64 x10.1.2.2)], Item.box b5 [v26, (.int .i64 x33.1.2.1), (.int .i64 x33.1.2.2)], Item.own v26 (x33.1.1 : (List Int)), Item.own v25 (x33.2 : (List (Int × Int × Int × Bool))), Item.own v23 (x32 : (List Int)), Item.own v22 (x31 : (List (Int × Int × Int × Bool))), Item.own v21 (x30.1 : (List Int)), Item.own v13 (x27.2 : (List (Int × Int × Int × Bool))), Item.box b2 [v7, (.int .i64 x6.1.2.1), (.int .i64 x6.1.2.2)], Item.own v7 (x6.1.1 : (List Int)), Item.own v6 (x6.2 : (List (Int × Int × Int × Bool))), Item.box b1 [u1, (.int .i64 a1.2.1), (.int .i64 a1.2.2)]] := hC111.front 8 rfl
                                  have hC113 : Ctx [] w0 _ [Item.own v13 (x27.2 : (List (Int × Int × Int × Bool))), Item.own v14 (x26.2.1 : (List Int)), Item.box b4 [v14, (.int .i64 x10.1.2.1), (.int .i64 x10.1.2.2)], Item.box b5 [v26, (.int .i64 x33.1.2.1), (.int .i64 x33.1.2.2)], Item.own v26 (x33.1.1 : (List Int)), Item.own v25 (x33.2 : (List (Int × Int × Int × Bool))), Item.own v23 (x32 : (List Int)), Item.own v22 (x31 : (List (Int × Int × Int × Bool))), Item.own v21 (x30.1 : (List Int)), Item.box b2 [v7, (.int .i64 x6.1.2.1), (.int .i64 x6.1.2.2)], Item.own v7 (x6.1.1 : (List Int)), Item.own v6 (x6.2 : (List (Int × Int × Int × Bool))), Item.box b1 [u1, (.int .i64 a1.2.1), (.int .i64 a1.2.2)]] := hC112.front 8 rfl
                                  have hC114 : Ctx [] w0 _ [Item.own v13 (x27.2 : (List (Int × Int × Int × Bool))), Item.own v14 (x26.2.1 : (List Int)), Item.box b4 [v14, (.int .i64 x10.1.2.1), (.int .i64 x10.1.2.2)]] := hC113.headN 3
                                  refine nrm_sub (l' := [(13, (ptr b4 0)), (14, v13), (16, (.int .i64 x27.1)), (142, (.bool (!x36)))]) ⟨rfl, rfl, rfl, rfl, trivial⟩ ?_
                                  exact ⟨(!x36), rfl, rfl, ((Keep.of hB38).then hB39).below, hC114⟩
                              · rintro _ w46 ⟨x34, rfl, rfl, hB37, hC104⟩
                                try dsimp only at hF
                                refine W_cond rfl (fun hc16 => ?_) (fun hc16 => ?_)
                                · replace hF := ite_t hF hc16
                                  refine W_seq_reg ?_
                                  refine WL_assign rfl rfl ?_
                                  refine WL_nil ?_
                                  refine W_ret ?_
                                  refine nrm_ret ?_
                                  have hq24 := Option.some.inj hF
                                  subst hq24
                                  refine fn_ret1 rfl rfl ?_
                                  exact ⟨_, rfl, bool_res hC104 _⟩
                                · replace hF := ite_f hF hc16
                                  refine W_skip ?_
                                  refine nrm_normal ?_
                                  refine W_seq_reg ?_
                                  refine WL_assign rfl rfl ?_
                                  refine WL_nil ?_
                                  refine W_seq_reg ?_
                                  refine WL_load_box_agg [v14, (.int .i64 x10.1.2.1), (.int .i64 x10.1.2.2)] hC104 2 rfl rfl rfl Try.isAgg26 Try.sizeOf26 rfl rfl ?_
                                  refine WL_move rfl rfl ?_
                                  obtain ⟨x37, hr37, hF⟩ := bind_some hF
                                  refine WL_call Try.call21 rfl rfl (c_Q_heldLedger (x26.2.1, x10.1.2.1, x10.1.2.2) v14 ((hC104.ro 1 rfl).now (Keep.refl _ _)) 1 x37 hr37) ?_
                                  intro _ w49 hv32
                                  obtain ⟨rfl, hB40⟩ := res_int hv32
                                  have hC115 := hC104.grow hB40
                                  refine WL_assign rfl rfl ?_
                                  refine WL_nil ?_
                                  refine W_seq ?_
                                  refine W_seq_reg ?_
                                  refine WL_move rfl rfl ?_
                                  refine WL_lss rfl rfl rfl ?_
                                  refine WL_nil ?_
                                  refine W_cond rfl (fun hc17 => ?_) (fun hc17 => ?_)
                                  · replace hF := ite_t hF hc17
                                    refine W_seq_reg ?_
                                    refine WL_assign rfl rfl ?_
                                    refine WL_nil ?_
                                    refine W_ret ?_
                                    refine nrm_ret ?_
                                    have hq25 := Option.some.inj hF
                                    subst hq25
                                    refine fn_ret1 rfl rfl ?_
                                    exact ⟨_, rfl, bool_res hC115 _⟩
                                  · replace hF := ite_f hF hc17
                                    refine W_skip ?_
                                    refine nrm_normal ?_
                                    refine W_seq_reg ?_
                                    refine WL_move rfl rfl ?_
                                    refine WL_move rfl rfl ?_
                                    obtain ⟨x38, hr38, hF⟩ := bind_some hF
                                    refine WL_call Try.call50 rfl rfl (c_Q_heldCallS x27.2 v13 ((hC115.ro 0 rfl).now (Keep.refl _ _)) x37 x38 hr38) ?_
                                    intro _ w50 hv33
                                    obtain ⟨rfl, hB41⟩ := res_int hv33
                                    have hC116 := hC115.grow hB41
                                    refine WL_assign rfl rfl ?_
                                    refine WL_nil ?_
                                    refine W_seq ?_
                                    refine W_seq_reg ?_
                                    refine WL_move rfl rfl ?_
                                    refine WL_lss rfl rfl rfl ?_
                                    refine WL_nil ?_
                                    refine W_cond rfl (fun hc18 => ?_) (fun hc18 => ?_)
                                    · replace hF := ite_t hF hc18
                                      refine W_seq_reg ?_
                                      refine WL_assign rfl rfl ?_
                                      refine WL_nil ?_
                                      refine W_ret ?_
                                      refine nrm_ret ?_
                                      have hq26 := Option.some.inj hF
                                      subst hq26
                                      refine fn_ret1 rfl rfl ?_
                                      exact ⟨_, rfl, bool_res hC116 _⟩
                                    · replace hF := ite_f hF hc18
                                      refine W_skip ?_
                                      refine nrm_normal ?_
                                      refine W_seq ?_
                                      refine W_seq_reg ?_
                                      refine WL_move rfl rfl ?_
                                      refine WL_move rfl rfl ?_
                                      refine WL_neq rfl rfl rfl ?_
                                      refine WL_nil ?_
                                      refine W_cond rfl (fun hc19 => ?_) (fun hc19 => ?_)
                                      · replace hF := ite_t hF hc19
                                        refine W_seq_reg ?_
                                        refine WL_assign rfl rfl ?_
                                        refine WL_nil ?_
                                        refine W_ret ?_
                                        refine nrm_ret ?_
                                        have hq27 := Option.some.inj hF
                                        subst hq27
                                        refine fn_ret1 rfl rfl ?_
                                        exact ⟨_, rfl, bool_res hC116 _⟩
                                      · replace hF := ite_f hF hc19
                                        refine W_skip ?_
                                        refine nrm_normal ?_
                                        refine W_seq_reg ?_
                                        refine WL_assign rfl rfl ?_
                                        refine WL_nil ?_
                                        refine W_ret ?_
                                        have hq28 := Option.some.inj hF
                                        subst hq28
                                        refine fn_ret1 rfl rfl ?_
                                        exact ⟨_, rfl, bool_res hC116 _⟩

theorem c_M_ReceiveCall {w0 : World} (a1 : ((List Int) × Int × Int)) (u1 : Value) (g1 : RO [] w0 u1 a1.1) (a2 : Int) (a3 : Int) (rr : (((List Int) × Int × Int) × Bool)) (hF : M.ReceiveCall a1 a2 a3 = some rr) :
    Calls Try.prog 18 [(.agg #[u1, (.int .i64 a1.2.1), (.int .i64 a1.2.2)]), (.int .i64 a2), (.int .i64 a3)].toArray w0 fun e w' => ∃ v, e = .returned v ∧ Res2 w0 rr.1 rr.2 v w' := by
  refine calls_of_W Try.func18 rfl rfl ?_
  have hC0 := Ctx.start w0
  unfold M.ReceiveCall at hF
  refine W_seq_reg ?_
  refine WL_box (cs := [u1, (.int .i64 a1.2.1), (.int .i64 a1.2.2)]) hC0 rfl rfl rfl (fun b1 w1 hC1 hB1 => ?_)
  refine WL_alloc hC1 zero26 rfl rfl (fun b2 w2 hC2 hB2 => ?_)
  refine WL_assign rfl rfl ?_
  refine WL_nil ?_
  refine W_seq_reg ?_
  refine WL_load_box_agg [u1, (.int .i64 a1.2.1), (.int .i64 a1.2.2)] hC2 1 rfl rfl rfl Try.isAgg26 Try.sizeOf26 rfl rfl ?_
  obtain ⟨x1, hr1, hF⟩ := bind_some hF
  refine WL_call Try.call93 rfl rfl (c_M_copyLedger (a1.1, a1.2.1, a1.2.2) u1 (g1.now hC2.keep) x1 hr1) ?_
  rintro v1 w3 ⟨hB3, F1, hv1, hn1, hb1⟩
  have hC3 := hC2.push hB3 (A := Item.own v1 x1) hv1 hn1 hb1
  obtain ⟨v2, rfl, hC4⟩ := st26_own hC3
  refine WL_alloc hC4 zero26 rfl rfl (fun b3 w4 hC5 hB4 => ?_)
  refine WL_store_box_agg (cs' := [v2, (.int .i64 x1.2.1), (.int .i64 x1.2.2)]) (new := [v2, (.int .i64 x1.2.1), (.int .i64 x1.2.2)]) hC5 0 rfl rfl (by intro v hv; simp only [List.mem_cons, List.not_mem_nil, or_false] at hv; rcases hv with rfl | rfl | rfl; exact (ro_one (hC5.ro 1 rfl)); exact rfl; exact rfl) rfl Try.sizeOf26 rfl rfl (fun w5 hC6 => ?_)
  try dsimp only [List.set] at hC6
  refine WL_nil ?_
  refine W_seq ?_
  obtain ⟨r1, hr2, hF⟩ := bind_some hF
  refine W_cut (fun l w => ∃ x2 : Bool, x2 = r1 ∧ l = [(1, (.int .i64 a2)), (2, (.int .i64 a3)), (6, (ptr b2 0)), (8, (ptr b3 0)), (33, (.bool x2))] ∧ Below w5.heap.size w5 w ∧ Ctx [] w0 w [Item.box b3 [v2, (.int .i64 x1.2.1), (.int .i64 x1.2.2)], Item.own v2 (x1.1 : (List Int)), Item.box b2 [(.slice none 0 0), (.int .i64 0), (.int .i64 0)]]) ?_ ?_
  · refine W_reg ?_
    refine WL_load_box_agg [u1, (.int .i64 a1.2.1), (.int .i64 a1.2.2)] hC6 3 rfl rfl rfl Try.isAgg26 Try.sizeOf26 rfl rfl ?_
    obtain ⟨x3, hr3, hr2⟩ := bind_some hr2
    refine WL_call Try.call31 rfl rfl (c_M_IsLedger (a1.1, a1.2.1, a1.2.2) u1 (g1.now hC6.keep) x3 hr3) ?_
    intro _ w7 hv2
    obtain ⟨rfl, hB6⟩ := res_bool hv2
    have hC8 := hC6.grow hB6
    refine WL_not rfl rfl ?_
    refine WL_move rfl rfl ?_
    refine WL_fork (fun hc1 => ?_) (fun hc1 => ?_)
    · replace hr2 := ite_t hr2 hc1
      refine WL_guard_skip rfl rfl (by simp) rfl ?_
      refine WL_guard_skip rfl rfl (by simp) rfl ?_
      refine WL_guard_skip rfl rfl (by simp) rfl ?_
      refine WL_pick_t rfl rfl rfl ?_
      refine WL_move rfl rfl ?_
      refine WL_guard_skip rfl rfl (by simp) rfl ?_
      refine WL_guard_skip rfl rfl (by simp) rfl ?_
      refine WL_guard_skip rfl rfl (by simp) rfl ?_
      refine WL_pick_t rfl rfl rfl ?_
      refine WL_move rfl rfl ?_
      refine WL_guard_skip rfl rfl (by simp) rfl ?_
      refine WL_guard_skip rfl rfl (by simp) rfl ?_
      refine WL_guard_skip rfl rfl (by simp) rfl ?_
      refine WL_pick_t rfl rfl rfl ?_
      refine WL_move rfl rfl ?_
      refine WL_guard_skip rfl rfl (by simp) rfl ?_
      refine WL_guard_skip rfl rfl (by simp) rfl ?_
      refine WL_guard_skip rfl rfl (by simp) rfl ?_
      refine WL_pick_t rfl rfl rfl ?_
      refine WL_nil ?_
      have hq1 := Option.some.inj hr2
      subst hq1
      have hC9 : Ctx [] w0 _ [Item.box b2 [(.slice none 0 0), (.int .i64 0), (.int .i64 0)], Item.box b3 [v2, (.int .i64 x1.2.1), (.int .i64 x1.2.2)], Item.own v2 (x1.1 : (List Int)), Item.box b1 [u1, (.int .i64 a1.2.1), (.int .i64 a1.2.2)]] := hC8.front 2 rfl
      have hC10 : Ctx [] w0 _ [Item.own v2 (x1.1 : (List Int)), Item.box b2 [(.slice none 0 0), (.int .i64 0), (.int .i64 0)], Item.box b3 [v2, (.int .i64 x1.2.1), (.int .i64 x1.2.2)], Item.box b1 [u1, (.int .i64 a1.2.1), (.int .i64 a1.2.2)]] := hC9.front 2 rfl
      have hC11 : Ctx [] w0 _ [Item.box b3 [v2, (.int .i64 x1.2.1), (.int .i64 x1.2.2)], Item.own v2 (x1.1 : (List Int)), Item.box b2 [(.slice none 0 0), (.int .i64 0), (.int .i64 0)], Item.box b1 [u1, (.int .i64 a1.2.1), (.int .i64 a1.2.2)]] := hC10.front 2 rfl
      have hC12 : Ctx [] w0 _ [Item.box b3 [v2, (.int .i64 x1.2.1), (.int .i64 x1.2.2)], Item.own v2 (x1.1 : (List Int)), Item.box b2 [(.slice none 0 0), (.int .i64 0), (.int .i64 0)]] := hC11.headN 3
      refine nrm_sub (l' := [(1, (.int .i64 a2)), (2, (.int .i64 a3)), (6, (ptr b2 0)), (8, (ptr b3 0)), (33, (.bool true))]) ⟨rfl, rfl, rfl, rfl, rfl, trivial⟩ ?_
      exact ⟨true, rfl, rfl, (Keep.of hB6).below, hC12⟩
    · replace hr2 := ite_f hr2 hc1
      refine WL_guard rfl rfl ?_
      refine WL_move rfl rfl ?_
      obtain ⟨x4, hr4, hr2⟩ := bind_some hr2
      refine WL_guard rfl rfl ?_
      refine WL_call Try.call94 rfl rfl (c_M_isKey a2 x4 hr4) ?_
      intro _ w8 hv3
      obtain ⟨rfl, hB7⟩ := res_bool hv3
      have hC13 := hC8.grow hB7
      refine WL_guard rfl rfl ?_
      refine WL_not rfl rfl ?_
      refine WL_pick_f rfl rfl rfl ?_
      refine WL_move rfl rfl ?_
      refine WL_fork (fun hc2 => ?_) (fun hc2 => ?_)
      · replace hr2 := ite_t hr2 hc2
        refine WL_guard_skip rfl rfl (by simp) rfl ?_
        refine WL_guard_skip rfl rfl (by simp) rfl ?_
        refine WL_guard_skip rfl rfl (by simp) rfl ?_
        refine WL_pick_t rfl rfl rfl ?_
        refine WL_move rfl rfl ?_
        refine WL_guard_skip rfl rfl (by simp) rfl ?_
        refine WL_guard_skip rfl rfl (by simp) rfl ?_
        refine WL_guard_skip rfl rfl (by simp) rfl ?_
        refine WL_pick_t rfl rfl rfl ?_
        refine WL_move rfl rfl ?_
        refine WL_guard_skip rfl rfl (by simp) rfl ?_
        refine WL_guard_skip rfl rfl (by simp) rfl ?_
        refine WL_guard_skip rfl rfl (by simp) rfl ?_
        refine WL_pick_t rfl rfl rfl ?_
        refine WL_nil ?_
        have hq2 := Option.some.inj hr2
        subst hq2
        have hC14 : Ctx [] w0 _ [Item.box b2 [(.slice none 0 0), (.int .i64 0), (.int .i64 0)], Item.box b3 [v2, (.int .i64 x1.2.1), (.int .i64 x1.2.2)], Item.own v2 (x1.1 : (List Int)), Item.box b1 [u1, (.int .i64 a1.2.1), (.int .i64 a1.2.2)]] := hC13.front 2 rfl
        have hC15 : Ctx [] w0 _ [Item.own v2 (x1.1 : (List Int)), Item.box b2 [(.slice none 0 0), (.int .i64 0), (.int .i64 0)], Item.box b3 [v2, (.int .i64 x1.2.1), (.int .i64 x1.2.2)], Item.box b1 [u1, (.int .i64 a1.2.1), (.int .i64 a1.2.2)]] := hC14.front 2 rfl
        have hC16 : Ctx [] w0 _ [Item.box b3 [v2, (.int .i64 x1.2.1), (.int .i64 x1.2.2)], Item.own v2 (x1.1 : (List Int)), Item.box b2 [(.slice none 0 0), (.int .i64 0), (.int .i64 0)], Item.box b1 [u1, (.int .i64 a1.2.1), (.int .i64 a1.2.2)]] := hC15.front 2 rfl
        have hC17 : Ctx [] w0 _ [Item.box b3 [v2, (.int .i64 x1.2.1), (.int .i64 x1.2.2)], Item.own v2 (x1.1 : (List Int)), Item.box b2 [(.slice none 0 0), (.int .i64 0), (.int .i64 0)]] := hC16.headN 3
        refine nrm_sub (l' := [(1, (.int .i64 a2)), (2, (.int .i64 a3)), (6, (ptr b2 0)), (8, (ptr b3 0)), (33, (.bool true))]) ⟨rfl, rfl, rfl, rfl, rfl, trivial⟩ ?_
        exact ⟨true, rfl, rfl, ((Keep.of hB6).then hB7).below, hC17⟩
      · replace hr2 := ite_f hr2 hc2
        refine WL_guard rfl rfl ?_
        refine WL_move rfl rfl ?_
        obtain ⟨x5, hr5, hr2⟩ := bind_some hr2
        refine WL_guard rfl rfl ?_
        refine WL_call Try.call95 rfl rfl (c_M_isCost a3 x5 hr5) ?_
        intro _ w9 hv4
        obtain ⟨rfl, hB8⟩ := res_bool hv4
        have hC18 := hC13.grow hB8
        refine WL_guard rfl rfl ?_
        refine WL_not rfl rfl ?_
        refine WL_pick_f rfl rfl rfl ?_
        refine WL_move rfl rfl ?_
        refine WL_fork (fun hc3 => ?_) (fun hc3 => ?_)
        · replace hr2 := ite_t hr2 hc3
          refine WL_guard_skip rfl rfl (by simp) rfl ?_
          refine WL_guard_skip rfl rfl (by simp) rfl ?_
          refine WL_guard_skip rfl rfl (by simp) rfl ?_
          refine WL_pick_t rfl rfl rfl ?_
          refine WL_move rfl rfl ?_
          refine WL_guard_skip rfl rfl (by simp) rfl ?_
          refine WL_guard_skip rfl rfl (by simp) rfl ?_
          refine WL_guard_skip rfl rfl (by simp) rfl ?_
          refine WL_pick_t rfl rfl rfl ?_
          refine WL_nil ?_
          have hq3 := Option.some.inj hr2
          subst hq3
          have hC19 : Ctx [] w0 _ [Item.box b2 [(.slice none 0 0), (.int .i64 0), (.int .i64 0)], Item.box b3 [v2, (.int .i64 x1.2.1), (.int .i64 x1.2.2)], Item.own v2 (x1.1 : (List Int)), Item.box b1 [u1, (.int .i64 a1.2.1), (.int .i64 a1.2.2)]] := hC18.front 2 rfl
          have hC20 : Ctx [] w0 _ [Item.own v2 (x1.1 : (List Int)), Item.box b2 [(.slice none 0 0), (.int .i64 0), (.int .i64 0)], Item.box b3 [v2, (.int .i64 x1.2.1), (.int .i64 x1.2.2)], Item.box b1 [u1, (.int .i64 a1.2.1), (.int .i64 a1.2.2)]] := hC19.front 2 rfl
          have hC21 : Ctx [] w0 _ [Item.box b3 [v2, (.int .i64 x1.2.1), (.int .i64 x1.2.2)], Item.own v2 (x1.1 : (List Int)), Item.box b2 [(.slice none 0 0), (.int .i64 0), (.int .i64 0)], Item.box b1 [u1, (.int .i64 a1.2.1), (.int .i64 a1.2.2)]] := hC20.front 2 rfl
          have hC22 : Ctx [] w0 _ [Item.box b3 [v2, (.int .i64 x1.2.1), (.int .i64 x1.2.2)], Item.own v2 (x1.1 : (List Int)), Item.box b2 [(.slice none 0 0), (.int .i64 0), (.int .i64 0)]] := hC21.headN 3
          refine nrm_sub (l' := [(1, (.int .i64 a2)), (2, (.int .i64 a3)), (6, (ptr b2 0)), (8, (ptr b3 0)), (33, (.bool true))]) ⟨rfl, rfl, rfl, rfl, rfl, trivial⟩ ?_
          exact ⟨true, rfl, rfl, (((Keep.of hB6).then hB7).then hB8).below, hC22⟩
        · replace hr2 := ite_f hr2 hc3
          refine WL_guard rfl rfl ?_
          refine WL_field Try.underlying26 rfl rfl (fun w => ⟨_, Try.sizeOf3 w⟩) rfl rfl ?_
          refine WL_guard rfl rfl ?_
          refine WL_load_box hC18 3 rfl rfl Try.isAgg3 rfl rfl ?_
          refine WL_guard rfl rfl ?_
          refine WL_gtr rfl rfl rfl ?_
          refine WL_pick_f rfl rfl rfl ?_
          refine WL_move rfl rfl ?_
          refine WL_fork (fun hc4 => ?_) (fun hc4 => ?_)
          · replace hr2 := ite_t hr2 hc4
            refine WL_guard_skip rfl rfl (by simp) rfl ?_
            refine WL_guard_skip rfl rfl (by simp) rfl ?_
            refine WL_guard_skip rfl rfl (by simp) rfl ?_
            refine WL_pick_t rfl rfl rfl ?_
            refine WL_nil ?_
            have hq4 := Option.some.inj hr2
            subst hq4
            have hC23 : Ctx [] w0 _ [Item.box b2 [(.slice none 0 0), (.int .i64 0), (.int .i64 0)], Item.box b3 [v2, (.int .i64 x1.2.1), (.int .i64 x1.2.2)], Item.own v2 (x1.1 : (List Int)), Item.box b1 [u1, (.int .i64 a1.2.1), (.int .i64 a1.2.2)]] := hC18.front 2 rfl
            have hC24 : Ctx [] w0 _ [Item.own v2 (x1.1 : (List Int)), Item.box b2 [(.slice none 0 0), (.int .i64 0), (.int .i64 0)], Item.box b3 [v2, (.int .i64 x1.2.1), (.int .i64 x1.2.2)], Item.box b1 [u1, (.int .i64 a1.2.1), (.int .i64 a1.2.2)]] := hC23.front 2 rfl
            have hC25 : Ctx [] w0 _ [Item.box b3 [v2, (.int .i64 x1.2.1), (.int .i64 x1.2.2)], Item.own v2 (x1.1 : (List Int)), Item.box b2 [(.slice none 0 0), (.int .i64 0), (.int .i64 0)], Item.box b1 [u1, (.int .i64 a1.2.1), (.int .i64 a1.2.2)]] := hC24.front 2 rfl
            have hC26 : Ctx [] w0 _ [Item.box b3 [v2, (.int .i64 x1.2.1), (.int .i64 x1.2.2)], Item.own v2 (x1.1 : (List Int)), Item.box b2 [(.slice none 0 0), (.int .i64 0), (.int .i64 0)]] := hC25.headN 3
            refine nrm_sub (l' := [(1, (.int .i64 a2)), (2, (.int .i64 a3)), (6, (ptr b2 0)), (8, (ptr b3 0)), (33, (.bool true))]) ⟨rfl, rfl, rfl, rfl, rfl, trivial⟩ ?_
            exact ⟨true, rfl, rfl, (((Keep.of hB6).then hB7).then hB8).below, hC26⟩
          · replace hr2 := ite_f hr2 hc4
            refine WL_guard rfl rfl ?_
            refine WL_field Try.underlying26 rfl rfl (fun w => ⟨_, Try.sizeOf3 w⟩) rfl rfl ?_
            refine WL_guard rfl rfl ?_
            refine WL_load_box hC18 3 rfl rfl Try.isAgg3 rfl rfl ?_
            refine WL_guard rfl rfl ?_
            refine WL_gtr rfl rfl rfl ?_
            refine WL_pick_f rfl rfl rfl ?_
            refine WL_nil ?_
            have hq5 := Option.some.inj hr2
            subst hq5
            have hC27 : Ctx [] w0 _ [Item.box b2 [(.slice none 0 0), (.int .i64 0), (.int .i64 0)], Item.box b3 [v2, (.int .i64 x1.2.1), (.int .i64 x1.2.2)], Item.own v2 (x1.1 : (List Int)), Item.box b1 [u1, (.int .i64 a1.2.1), (.int .i64 a1.2.2)]] := hC18.front 2 rfl
            have hC28 : Ctx [] w0 _ [Item.own v2 (x1.1 : (List Int)), Item.box b2 [(.slice none 0 0), (.int .i64 0), (.int .i64 0)], Item.box b3 [v2, (.int .i64 x1.2.1), (.int .i64 x1.2.2)], Item.box b1 [u1, (.int .i64 a1.2.1), (.int .i64 a1.2.2)]] := hC27.front 2 rfl
            have hC29 : Ctx [] w0 _ [Item.box b3 [v2, (.int .i64 x1.2.1), (.int .i64 x1.2.2)], Item.own v2 (x1.1 : (List Int)), Item.box b2 [(.slice none 0 0), (.int .i64 0), (.int .i64 0)], Item.box b1 [u1, (.int .i64 a1.2.1), (.int .i64 a1.2.2)]] := hC28.front 2 rfl
            have hC30 : Ctx [] w0 _ [Item.box b3 [v2, (.int .i64 x1.2.1), (.int .i64 x1.2.2)], Item.own v2 (x1.1 : (List Int)), Item.box b2 [(.slice none 0 0), (.int .i64 0), (.int .i64 0)]] := hC29.headN 3
            refine nrm_sub (l' := [(1, (.int .i64 a2)), (2, (.int .i64 a3)), (6, (ptr b2 0)), (8, (ptr b3 0)), (33, (.bool (decide (999999000 < a1.2.2))))]) ⟨rfl, rfl, rfl, rfl, rfl, trivial⟩ ?_
            exact ⟨(decide (999999000 < a1.2.2)), rfl, rfl, (((Keep.of hB6).then hB7).then hB8).below, hC30⟩
  · rintro _ w6 ⟨x2, rfl, rfl, hB5, hC7⟩
    try dsimp only at hF
    refine W_cond rfl (fun hc5 => ?_) (fun hc5 => ?_)
    · replace hF := ite_t hF hc5
      refine W_seq_reg ?_
      refine WL_load_box_agg [v2, (.int .i64 x1.2.1), (.int .i64 x1.2.2)] hC7 0 rfl rfl rfl Try.isAgg26 Try.sizeOf26 rfl rfl ?_
      refine WL_store_box_agg (cs' := [v2, (.int .i64 x1.2.1), (.int .i64 x1.2.2)]) (new := [v2, (.int .i64 x1.2.1), (.int .i64 x1.2.2)]) hC7 2 rfl rfl (by intro v hv; simp only [List.mem_cons, List.not_mem_nil, or_false] at hv; rcases hv with rfl | rfl | rfl; exact (ro_one (hC7.ro 1 rfl)); exact rfl; exact rfl) rfl Try.sizeOf26 rfl rfl (fun w10 hC31 => ?_)
      try dsimp only [List.set] at hC31
      refine WL_assign rfl rfl ?_
      refine WL_nil ?_
      refine W_ret ?_
      refine nrm_ret ?_
      have hq6 := Option.some.inj hF
      subst hq6
      refine fn_retG2 rfl (rv_cell_agg (cs' := [v2, (.int .i64 x1.2.1), (.int .i64 x1.2.2)]) hC31 (i := 2) rfl rfl rfl Try.isAgg26 Try.sizeOf26 rfl) (rv_tmp rfl) ?_
      have hC32 := hC31.triv (bool_val (false))
      have hC34 : Ctx [] w0 _ [Item.own v2 (x1.1 : (List Int)), Item.own (.bool false) (false : Bool), Item.box b3 [v2, (.int .i64 x1.2.1), (.int .i64 x1.2.2)], Item.box b2 [v2, (.int .i64 x1.2.1), (.int .i64 x1.2.2)]] := hC32.front 2 rfl
      have hC33 := own_st26 v2 x1.1 x1.2.1 x1.2.2 hC34
      exact ⟨_, rfl, res2_of hC33⟩
    · replace hF := ite_f hF hc5
      refine W_skip ?_
      refine nrm_normal ?_
      refine W_seq_reg ?_
      refine WL_move rfl rfl ?_
      refine WL_move rfl rfl ?_
      obtain ⟨x6, hr6, hF⟩ := bind_some hF
      have hC35 : Ctx [] w0 _ [Item.own v2 (x1.1 : (List Int)), Item.box b3 [v2, (.int .i64 x1.2.1), (.int .i64 x1.2.2)], Item.box b2 [(.slice none 0 0), (.int .i64 0), (.int .i64 0)]] := hC7.front 1 rfl
      obtain ⟨Fs1, hH1, hn2, hF1, hO1, hb2⟩ := Ctx.lend2 (As := [Item.box b2 [(.slice none 0 0), (.int .i64 0), (.int .i64 0)]]) [Item.own v2 (x1.1 : (List Int)), Item.box b3 [v2, (.int .i64 x1.2.1), (.int .i64 x1.2.2)]] hC35
      refine WL_call Try.call96 rfl rfl (c_M_Ledger_receive b3 (x1.1, x1.2.1, x1.2.2) v2 a2 a3 hH1 hn2 x6 hr6) ?_
      rintro _ w11 ⟨v3, rfl, hq7⟩
      have hC36 : Ctx [] w0 w11 [Item.own v3 (x6.1 : (List Int)), Item.box b3 [v3, (.int .i64 x6.2.1), (.int .i64 x6.2.2)], Item.box b2 [(.slice none 0 0), (.int .i64 0), (.int .i64 0)]] := hb2 _ _ hq7
      refine WL_nil ?_
      refine W_seq_reg ?_
      refine WL_load_box_agg [v3, (.int .i64 x6.2.1), (.int .i64 x6.2.2)] hC36 1 rfl rfl rfl Try.isAgg26 Try.sizeOf26 rfl rfl ?_
      refine WL_store_box_agg (cs' := [v3, (.int .i64 x6.2.1), (.int .i64 x6.2.2)]) (new := [v3, (.int .i64 x6.2.1), (.int .i64 x6.2.2)]) hC36 2 rfl rfl (by intro v hv; simp only [List.mem_cons, List.not_mem_nil, or_false] at hv; rcases hv with rfl | rfl | rfl; exact (ro_one (hC36.ro 0 rfl)); exact rfl; exact rfl) rfl Try.sizeOf26 rfl rfl (fun w12 hC37 => ?_)
      try dsimp only [List.set] at hC37
      refine WL_assign rfl rfl ?_
      refine WL_nil ?_
      refine W_ret ?_
      have hq8 := Option.some.inj hF
      subst hq8
      refine fn_retG2 rfl (rv_cell_agg (cs' := [v3, (.int .i64 x6.2.1), (.int .i64 x6.2.2)]) hC37 (i := 2) rfl rfl rfl Try.isAgg26 Try.sizeOf26 rfl) (rv_tmp rfl) ?_
      have hC38 := hC37.triv (bool_val (true))
      have hC40 : Ctx [] w0 _ [Item.own v3 (x6.1 : (List Int)), Item.own (.bool true) (true : Bool), Item.box b3 [v3, (.int .i64 x6.2.1), (.int .i64 x6.2.2)], Item.box b2 [v3, (.int .i64 x6.2.1), (.int .i64 x6.2.2)]] := hC38.front 1 rfl
      have hC39 := own_st26 v3 x6.1 x6.2.1 x6.2.2 hC40
      exact ⟨_, rfl, res2_of hC39⟩

theorem c_Q_FnExactReceiveCall {w0 : World} (a1 : ((List Int) × Int × Int)) (u1 : Value) (g1 : RO [] w0 u1 a1.1) (a2 : Int) (a3 : Int) (rr : Bool) (hF : Q.FnExactReceiveCall a1 a2 a3 = some rr) :
    Calls Try.prog 3 [(.agg #[u1, (.int .i64 a1.2.1), (.int .i64 a1.2.2)]), (.int .i64 a2), (.int .i64 a3)].toArray w0 fun e w' => ∃ v, e = .returned v ∧ Res w0 rr v w' := by
  refine calls_of_W Try.func3 rfl rfl ?_
  have hC0 := Ctx.start w0
  unfold Q.FnExactReceiveCall at hF
  refine W_seq_reg ?_
  refine WL_box (cs := [u1, (.int .i64 a1.2.1), (.int .i64 a1.2.2)]) hC0 rfl rfl rfl (fun b1 w1 hC1 hB1 => ?_)
  refine WL_assign rfl rfl ?_
  refine WL_nil ?_
  refine W_seq_reg ?_
  refine WL_assign rfl rfl ?_
  refine WL_nil ?_
  refine W_seq_reg ?_
  refine WL_load_box_agg [u1, (.int .i64 a1.2.1), (.int .i64 a1.2.2)] hC1 0 rfl rfl rfl Try.isAgg24 Try.sizeOf24 rfl rfl ?_
  refine WL_move rfl rfl ?_
  obtain ⟨x1, hr1, hF⟩ := bind_some hF
  refine WL_call Try.call15 rfl rfl (c_Q_szLedger (a1.1, a1.2.1, a1.2.2) u1 (g1.now hC1.keep) 1048576 x1 hr1) ?_
  intro _ w2 hv1
  obtain ⟨rfl, hB2⟩ := res_int hv1
  have hC2 := hC1.grow hB2
  refine WL_assign rfl rfl ?_
  refine WL_nil ?_
  refine W_seq ?_
  refine W_seq_reg ?_
  refine WL_move rfl rfl ?_
  refine WL_lss rfl rfl rfl ?_
  refine WL_nil ?_
  refine W_cond rfl (fun hc1 => ?_) (fun hc1 => ?_)
  · replace hF := ite_t hF hc1
    refine W_seq_reg ?_
    refine WL_assign rfl rfl ?_
    refine WL_nil ?_
    refine W_ret ?_
    refine nrm_ret ?_
    have hq1 := Option.some.inj hF
    subst hq1
    refine fn_ret1 rfl rfl ?_
    exact ⟨_, rfl, bool_res hC2 _⟩
  · replace hF := ite_f hF hc1
    refine W_skip ?_
    refine nrm_normal ?_
    refine W_seq_reg ?_
    refine WL_load_box_agg [u1, (.int .i64 a1.2.1), (.int .i64 a1.2.2)] hC2 0 rfl rfl rfl Try.isAgg24 Try.sizeOf24 rfl rfl ?_
    obtain ⟨x2, hr2, hF⟩ := bind_some hF
    refine WL_call Try.call17 rfl rfl (c_Q_toLedger (a1.1, a1.2.1, a1.2.2) u1 (g1.now hC2.keep) x2 hr2) ?_
    rintro v1 w3 ⟨hB3, F1, hv2, hn1, hb1⟩
    have hC3 := hC2.push hB3 (A := Item.own v1 x2) hv2 hn1 hb1
    obtain ⟨v2, rfl, hC4⟩ := st26_own hC3
    refine WL_move rfl rfl ?_
    refine WL_move rfl rfl ?_
    obtain ⟨x3, hr3, hF⟩ := bind_some hF
    refine WL_call Try.call16 rfl rfl (c_S_ReceiveCall x2 v2 ((hC4.ro 0 rfl).now (Keep.refl _ _)) a2 a3 x3 hr3) ?_
    rintro _ w4 ⟨hB4, v3, v4, F2, F3, rfl, hv3, hv4, hn2, hb2⟩
    obtain ⟨rfl, rfl⟩ := val_bool hv4
    have hC5 := hC4.pushL hB4 (Bs := [Item.own v3 x3.1]) (Fs := [F2]) ⟨F2, _, rfl, hv3, rfl⟩ (by simpa using hn2) (fun b h => hb2 b (by simpa using h))
    obtain ⟨v5, rfl, hC6⟩ := st26_own hC5
    refine WL_move rfl rfl ?_
    refine WL_extract rfl rfl rfl ?_
    refine WL_extract rfl rfl rfl ?_
    refine WL_alloc hC6 zero26 rfl rfl (fun b2 w5 hC7 hB5 => ?_)
    refine WL_store_box_agg (cs' := [v5, (.int .i64 x3.1.2.1), (.int .i64 x3.1.2.2)]) (new := [v5, (.int .i64 x3.1.2.1), (.int .i64 x3.1.2.2)]) hC7 0 rfl rfl (by intro v hv; simp only [List.mem_cons, List.not_mem_nil, or_false] at hv; rcases hv with rfl | rfl | rfl; exact (ro_one (hC7.ro 1 rfl)); exact rfl; exact rfl) rfl Try.sizeOf26 rfl rfl (fun w6 hC8 => ?_)
    try dsimp only [List.set] at hC8
    refine WL_assign rfl rfl ?_
    refine WL_nil ?_
    refine W_seq_reg ?_
    refine WL_load_box_agg [u1, (.int .i64 a1.2.1), (.int .i64 a1.2.2)] hC8 3 rfl rfl rfl Try.isAgg24 Try.sizeOf24 rfl rfl ?_
    obtain ⟨x4, hr4, hF⟩ := bind_some hF
    refine WL_call Try.call17 rfl rfl (c_Q_toLedger (a1.1, a1.2.1, a1.2.2) u1 (g1.now hC8.keep) x4 hr4) ?_
    rintro v6 w7 ⟨hB6, F4, hv5, hn3, hb3⟩
    have hC9 := hC8.push hB6 (A := Item.own v6 x4) hv5 hn3 hb3
    obtain ⟨v7, rfl, hC10⟩ := st26_own hC9
    refine WL_alloc hC10 zero26 rfl rfl (fun b3 w8 hC11 hB7 => ?_)
    refine WL_store_box_agg (cs' := [v7, (.int .i64 x4.2.1), (.int .i64 x4.2.2)]) (new := [v7, (.int .i64 x4.2.1), (.int .i64 x4.2.2)]) hC11 0 rfl rfl (by intro v hv; simp only [List.mem_cons, List.not_mem_nil, or_false] at hv; rcases hv with rfl | rfl | rfl; exact (ro_one (hC11.ro 1 rfl)); exact rfl; exact rfl) rfl Try.sizeOf26 rfl rfl (fun w9 hC12 => ?_)
    try dsimp only [List.set] at hC12
    refine WL_nil ?_
    refine W_seq_reg ?_
    refine WL_load_box_agg [v7, (.int .i64 x4.2.1), (.int .i64 x4.2.2)] hC12 0 rfl rfl rfl Try.isAgg26 Try.sizeOf26 rfl rfl ?_
    refine WL_move rfl rfl ?_
    refine WL_move rfl rfl ?_
    obtain ⟨x5, hr5, hF⟩ := bind_some hF
    refine WL_call Try.call18 rfl rfl (c_M_ReceiveCall (x4.1, x4.2.1, x4.2.2) v7 ((hC12.ro 1 rfl).now (Keep.refl _ _)) a2 a3 x5 hr5) ?_
    rintro _ w10 ⟨hB8, v8, v9, F5, F6, rfl, hv6, hv7, hn4, hb4⟩
    obtain ⟨rfl, rfl⟩ := val_bool hv7
    have hC13 := hC12.pushL hB8 (Bs := [Item.own v8 x5.1]) (Fs := [F5]) ⟨F5, _, rfl, hv6, rfl⟩ (by simpa using hn4) (fun b h => hb4 b (by simpa using h))
    obtain ⟨v10, rfl, hC14⟩ := st26_own hC13
    refine WL_move rfl rfl ?_
    refine WL_extract rfl rfl rfl ?_
    refine WL_extract rfl rfl rfl ?_
    refine WL_alloc hC14 zero26 rfl rfl (fun b4 w11 hC15 hB9 => ?_)
    refine WL_store_box_agg (cs' := [v10, (.int .i64 x5.1.2.1), (.int .i64 x5.1.2.2)]) (new := [v10, (.int .i64 x5.1.2.1), (.int .i64 x5.1.2.2)]) hC15 0 rfl rfl (by intro v hv; simp only [List.mem_cons, List.not_mem_nil, or_false] at hv; rcases hv with rfl | rfl | rfl; exact (ro_one (hC15.ro 1 rfl)); exact rfl; exact rfl) rfl Try.sizeOf26 rfl rfl (fun w12 hC16 => ?_)
    try dsimp only [List.set] at hC16
    refine WL_assign rfl rfl ?_
    refine WL_nil ?_
    refine W_seq ?_
    obtain ⟨r1, hr6, hF⟩ := bind_some hF
    refine W_cut (fun l w => ∃ x6 : Bool, x6 = r1 ∧ l = [(1, (.int .i64 a2)), (2, (.int .i64 a3)), (3, (ptr b1 0)), (8, (ptr b2 0)), (9, (.bool x3.2)), (10, (ptr b3 0)), (11, (ptr b4 0)), (12, (.bool x5.2)), (48, (.bool x6))] ∧ Below w12.heap.size w12 w ∧ Ctx [] w0 w [Item.box b4 [v10, (.int .i64 x5.1.2.1), (.int .i64 x5.1.2.2)], Item.own v10 (x5.1.1 : (List Int)), Item.box b3 [v7, (.int .i64 x4.2.1), (.int .i64 x4.2.2)], Item.own v7 (x4.1 : (List Int)), Item.box b2 [v5, (.int .i64 x3.1.2.1), (.int .i64 x3.1.2.2)], Item.own v5 (x3.1.1 : (List Int)), Item.box b1 [u1, (.int .i64 a1.2.1), (.int .i64 a1.2.2)]]) ?_ ?_
    · refine W_reg ?_
      refine WL_load_box_agg [v10, (.int .i64 x5.1.2.1), (.int .i64 x5.1.2.2)] hC16 0 rfl rfl rfl Try.isAgg26 Try.sizeOf26 rfl rfl ?_
      refine WL_load_box_agg [v5, (.int .i64 x3.1.2.1), (.int .i64 x3.1.2.2)] hC16 4 rfl rfl rfl Try.isAgg26 Try.sizeOf26 rfl rfl ?_
      obtain ⟨x7, hr7, hr6⟩ := bind_some hr6
      refine WL_call Try.call19 rfl rfl (c_Q_eqLedger (x5.1.1, x5.1.2.1, x5.1.2.2) v10 ((hC16.ro 1 rfl).now (Keep.refl _ _)) (x3.1.1, x3.1.2.1, x3.1.2.2) v5 ((hC16.ro 5 rfl).now (Keep.refl _ _)) x7 hr7) ?_
      intro _ w14 hv8
      obtain ⟨rfl, hB11⟩ := res_bool hv8
      have hC18 := hC16.grow hB11
      refine WL_not rfl rfl ?_
      refine WL_move rfl rfl ?_
      refine WL_fork (fun hc2 => ?_) (fun hc2 => ?_)
      · replace hr6 := ite_t hr6 hc2
        refine WL_guard_skip rfl rfl (by simp) rfl ?_
        refine WL_guard_skip rfl rfl (by simp) rfl ?_
        refine WL_guard_skip rfl rfl (by simp) rfl ?_
        refine WL_pick_t rfl rfl rfl ?_
        refine WL_nil ?_
        have hq2 := Option.some.inj hr6
        subst hq2
        have hC19 : Ctx [] w0 _ [Item.box b1 [u1, (.int .i64 a1.2.1), (.int .i64 a1.2.2)], Item.box b4 [v10, (.int .i64 x5.1.2.1), (.int .i64 x5.1.2.2)], Item.own v10 (x5.1.1 : (List Int)), Item.box b3 [v7, (.int .i64 x4.2.1), (.int .i64 x4.2.2)], Item.own v7 (x4.1 : (List Int)), Item.box b2 [v5, (.int .i64 x3.1.2.1), (.int .i64 x3.1.2.2)], Item.own v5 (x3.1.1 : (List Int)), Item.own v2 (x2.1 : (List Int))] := hC18.front 7 rfl
        have hC20 : Ctx [] w0 _ [Item.own v5 (x3.1.1 : (List Int)), Item.box b1 [u1, (.int .i64 a1.2.1), (.int .i64 a1.2.2)], Item.box b4 [v10, (.int .i64 x5.1.2.1), (.int .i64 x5.1.2.2)], Item.own v10 (x5.1.1 : (List Int)), Item.box b3 [v7, (.int .i64 x4.2.1), (.int .i64 x4.2.2)], Item.own v7 (x4.1 : (List Int)), Item.box b2 [v5, (.int .i64 x3.1.2.1), (.int .i64 x3.1.2.2)], Item.own v2 (x2.1 : (List Int))] := hC19.front 6 rfl
        have hC21 : Ctx [] w0 _ [Item.box b2 [v5, (.int .i64 x3.1.2.1), (.int .i64 x3.1.2.2)], Item.own v5 (x3.1.1 : (List Int)), Item.box b1 [u1, (.int .i64 a1.2.1), (.int .i64 a1.2.2)], Item.box b4 [v10, (.int .i64 x5.1.2.1), (.int .i64 x5.1.2.2)], Item.own v10 (x5.1.1 : (List Int)), Item.box b3 [v7, (.int .i64 x4.2.1), (.int .i64 x4.2.2)], Item.own v7 (x4.1 : (List Int)), Item.own v2 (x2.1 : (List Int))] := hC20.front 6 rfl
        have hC22 : Ctx [] w0 _ [Item.own v7 (x4.1 : (List Int)), Item.box b2 [v5, (.int .i64 x3.1.2.1), (.int .i64 x3.1.2.2)], Item.own v5 (x3.1.1 : (List Int)), Item.box b1 [u1, (.int .i64 a1.2.1), (.int .i64 a1.2.2)], Item.box b4 [v10, (.int .i64 x5.1.2.1), (.int .i64 x5.1.2.2)], Item.own v10 (x5.1.1 : (List Int)), Item.box b3 [v7, (.int .i64 x4.2.1), (.int .i64 x4.2.2)], Item.own v2 (x2.1 : (List Int))] := hC21.front 6 rfl
        have hC23 : Ctx [] w0 _ [Item.box b3 [v7, (.int .i64 x4.2.1), (.int .i64 x4.2.2)], Item.own v7 (x4.1 : (List Int)), Item.box b2 [v5, (.int .i64 x3.1.2.1), (.int .i64 x3.1.2.2)], Item.own v5 (x3.1.1 : (List Int)), Item.box b1 [u1, (.int .i64 a1.2.1), (.int .i64 a1.2.2)], Item.box b4 [v10, (.int .i64 x5.1.2.1), (.int .i64 x5.1.2.2)], Item.own v10 (x5.1.1 : (List Int)), Item.own v2 (x2.1 : (List Int))] := hC22.front 6 rfl
        have hC24 : Ctx [] w0 _ [Item.own v10 (x5.1.1 : (List Int)), Item.box b3 [v7, (.int .i64 x4.2.1), (.int .i64 x4.2.2)], Item.own v7 (x4.1 : (List Int)), Item.box b2 [v5, (.int .i64 x3.1.2.1), (.int .i64 x3.1.2.2)], Item.own v5 (x3.1.1 : (List Int)), Item.box b1 [u1, (.int .i64 a1.2.1), (.int .i64 a1.2.2)], Item.box b4 [v10, (.int .i64 x5.1.2.1), (.int .i64 x5.1.2.2)], Item.own v2 (x2.1 : (List Int))] := hC23.front 6 rfl
        have hC25 : Ctx [] w0 _ [Item.box b4 [v10, (.int .i64 x5.1.2.1), (.int .i64 x5.1.2.2)], Item.own v10 (x5.1.1 : (List Int)), Item.box b3 [v7, (.int .i64 x4.2.1), (.int .i64 x4.2.2)], Item.own v7 (x4.1 : (List Int)), Item.box b2 [v5, (.int .i64 x3.1.2.1), (.int .i64 x3.1.2.2)], Item.own v5 (x3.1.1 : (List Int)), Item.box b1 [u1, (.int .i64 a1.2.1), (.int .i64 a1.2.2)], Item.own v2 (x2.1 : (List Int))] := hC24.front 6 rfl
        have hC26 : Ctx [] w0 _ [Item.box b4 [v10, (.int .i64 x5.1.2.1), (.int .i64 x5.1.2.2)], Item.own v10 (x5.1.1 : (List Int)), Item.box b3 [v7, (.int .i64 x4.2.1), (.int .i64 x4.2.2)], Item.own v7 (x4.1 : (List Int)), Item.box b2 [v5, (.int .i64 x3.1.2.1), (.int .i64 x3.1.2.2)], Item.own v5 (x3.1.1 : (List Int)), Item.box b1 [u1, (.int .i64 a1.2.1), (.int .i64 a1.2.2)]] := hC25.headN 7
        refine nrm_sub (l' := [(1, (.int .i64 a2)), (2, (.int .i64 a3)), (3, (ptr b1 0)), (8, (ptr b2 0)), (9, (.bool x3.2)), (10, (ptr b3 0)), (11, (ptr b4 0)), (12, (.bool x5.2)), (48, (.bool true))]) ⟨rfl, rfl, rfl, rfl, rfl, rfl, rfl, rfl, rfl, trivial⟩ ?_
        exact ⟨true, rfl, rfl, (Keep.of hB11).below, hC26⟩
      · replace hr6 := ite_f hr6 hc2
        refine WL_guard rfl rfl ?_
        refine WL_move rfl rfl ?_
        refine WL_guard rfl rfl ?_
        refine WL_move rfl rfl ?_
        refine WL_guard rfl rfl ?_
        refine WL_bool_neq Try.underlying4 rfl rfl rfl ?_
        refine WL_pick_f rfl rfl rfl ?_
        refine WL_nil ?_
        have hq3 := Option.some.inj hr6
        subst hq3
        have hC27 : Ctx [] w0 _ [Item.box b1 [u1, (.int .i64 a1.2.1), (.int .i64 a1.2.2)], Item.box b4 [v10, (.int .i64 x5.1.2.1), (.int .i64 x5.1.2.2)], Item.own v10 (x5.1.1 : (List Int)), Item.box b3 [v7, (.int .i64 x4.2.1), (.int .i64 x4.2.2)], Item.own v7 (x4.1 : (List Int)), Item.box b2 [v5, (.int .i64 x3.1.2.1), (.int .i64 x3.1.2.2)], Item.own v5 (x3.1.1 : (List Int)), Item.own v2 (x2.1 : (List Int))] := hC18.front 7 rfl
        have hC28 : Ctx [] w0 _ [Item.own v5 (x3.1.1 : (List Int)), Item.box b1 [u1, (.int .i64 a1.2.1), (.int .i64 a1.2.2)], Item.box b4 [v10, (.int .i64 x5.1.2.1), (.int .i64 x5.1.2.2)], Item.own v10 (x5.1.1 : (List Int)), Item.box b3 [v7, (.int .i64 x4.2.1), (.int .i64 x4.2.2)], Item.own v7 (x4.1 : (List Int)), Item.box b2 [v5, (.int .i64 x3.1.2.1), (.int .i64 x3.1.2.2)], Item.own v2 (x2.1 : (List Int))] := hC27.front 6 rfl
        have hC29 : Ctx [] w0 _ [Item.box b2 [v5, (.int .i64 x3.1.2.1), (.int .i64 x3.1.2.2)], Item.own v5 (x3.1.1 : (List Int)), Item.box b1 [u1, (.int .i64 a1.2.1), (.int .i64 a1.2.2)], Item.box b4 [v10, (.int .i64 x5.1.2.1), (.int .i64 x5.1.2.2)], Item.own v10 (x5.1.1 : (List Int)), Item.box b3 [v7, (.int .i64 x4.2.1), (.int .i64 x4.2.2)], Item.own v7 (x4.1 : (List Int)), Item.own v2 (x2.1 : (List Int))] := hC28.front 6 rfl
        have hC30 : Ctx [] w0 _ [Item.own v7 (x4.1 : (List Int)), Item.box b2 [v5, (.int .i64 x3.1.2.1), (.int .i64 x3.1.2.2)], Item.own v5 (x3.1.1 : (List Int)), Item.box b1 [u1, (.int .i64 a1.2.1), (.int .i64 a1.2.2)], Item.box b4 [v10, (.int .i64 x5.1.2.1), (.int .i64 x5.1.2.2)], Item.own v10 (x5.1.1 : (List Int)), Item.box b3 [v7, (.int .i64 x4.2.1), (.int .i64 x4.2.2)], Item.own v2 (x2.1 : (List Int))] := hC29.front 6 rfl
        have hC31 : Ctx [] w0 _ [Item.box b3 [v7, (.int .i64 x4.2.1), (.int .i64 x4.2.2)], Item.own v7 (x4.1 : (List Int)), Item.box b2 [v5, (.int .i64 x3.1.2.1), (.int .i64 x3.1.2.2)], Item.own v5 (x3.1.1 : (List Int)), Item.box b1 [u1, (.int .i64 a1.2.1), (.int .i64 a1.2.2)], Item.box b4 [v10, (.int .i64 x5.1.2.1), (.int .i64 x5.1.2.2)], Item.own v10 (x5.1.1 : (List Int)), Item.own v2 (x2.1 : (List Int))] := hC30.front 6 rfl
        have hC32 : Ctx [] w0 _ [Item.own v10 (x5.1.1 : (List Int)), Item.box b3 [v7, (.int .i64 x4.2.1), (.int .i64 x4.2.2)], Item.own v7 (x4.1 : (List Int)), Item.box b2 [v5, (.int .i64 x3.1.2.1), (.int .i64 x3.1.2.2)], Item.own v5 (x3.1.1 : (List Int)), Item.box b1 [u1, (.int .i64 a1.2.1), (.int .i64 a1.2.2)], Item.box b4 [v10, (.int .i64 x5.1.2.1), (.int .i64 x5.1.2.2)], Item.own v2 (x2.1 : (List Int))] := hC31.front 6 rfl
        have hC33 : Ctx [] w0 _ [Item.box b4 [v10, (.int .i64 x5.1.2.1), (.int .i64 x5.1.2.2)], Item.own v10 (x5.1.1 : (List Int)), Item.box b3 [v7, (.int .i64 x4.2.1), (.int .i64 x4.2.2)], Item.own v7 (x4.1 : (List Int)), Item.box b2 [v5, (.int .i64 x3.1.2.1), (.int .i64 x3.1.2.2)], Item.own v5 (x3.1.1 : (List Int)), Item.box b1 [u1, (.int .i64 a1.2.1), (.int .i64 a1.2.2)], Item.own v2 (x2.1 : (List Int))] := hC32.front 6 rfl
        have hC34 : Ctx [] w0 _ [Item.box b4 [v10, (.int .i64 x5.1.2.1), (.int .i64 x5.1.2.2)], Item.own v10 (x5.1.1 : (List Int)), Item.box b3 [v7, (.int .i64 x4.2.1), (.int .i64 x4.2.2)], Item.own v7 (x4.1 : (List Int)), Item.box b2 [v5, (.int .i64 x3.1.2.1), (.int .i64 x3.1.2.2)], Item.own v5 (x3.1.1 : (List Int)), Item.box b1 [u1, (.int .i64 a1.2.1), (.int .i64 a1.2.2)]] := hC33.headN 7
        refine nrm_sub (l' := [(1, (.int .i64 a2)), (2, (.int .i64 a3)), (3, (ptr b1 0)), (8, (ptr b2 0)), (9, (.bool x3.2)), (10, (ptr b3 0)), (11, (ptr b4 0)), (12, (.bool x5.2)), (48, (.bool (!decide (x5.2 = x3.2))))]) ⟨rfl, rfl, rfl, rfl, rfl, rfl, rfl, rfl, rfl, trivial⟩ ?_
        exact ⟨(!decide (x5.2 = x3.2)), rfl, rfl, (Keep.of hB11).below, hC34⟩
    · rintro _ w13 ⟨x6, rfl, rfl, hB10, hC17⟩
      try dsimp only at hF
      refine W_cond rfl (fun hc3 => ?_) (fun hc3 => ?_)
      · replace hF := ite_t hF hc3
        refine W_seq_reg ?_
        refine WL_assign rfl rfl ?_
        refine WL_nil ?_
        refine W_ret ?_
        refine nrm_ret ?_
        have hq4 := Option.some.inj hF
        subst hq4
        refine fn_ret1 rfl rfl ?_
        exact ⟨_, rfl, bool_res hC17 _⟩
      · replace hF := ite_f hF hc3
        refine W_skip ?_
        refine nrm_normal ?_
        refine W_seq ?_
        refine W_seq ?_
        refine W_drawn 5 rfl hmix (fun w15 hB12 => ?_)
        have hC35 := hC17.grow hB12
        obtain ⟨x8, hr8, hF⟩ := bind_some hF
        refine WA.sub (l' := [(1, (.int .i64 a2)), (2, (.int .i64 a3)), (3, (ptr b1 0)), (8, (ptr b2 0)), (9, (.bool x3.2)), (10, (ptr b3 0)), (11, (ptr b4 0)), (12, (.bool x5.2)), (48, (.bool x6))]) ?_ ⟨rfl, rfl, rfl, rfl, rfl, rfl, rfl, rfl, rfl, trivial⟩
        refine WA_postsE [⟨0, [], fun vs => PW.val (.agg #[v7, (.int .i64 x4.2.1), (.int .i64 x4.2.2)]), []⟩, ⟨1, [], fun vs => PW.val (.agg #[u1, (.int .i64 a1.2.1), (.int .i64 a1.2.2)]), []⟩, ⟨2, [], fun vs => PW.own x8, []⟩] [[], [], [1]] 2 rfl (by kernel_rfl) (by kernel_rfl) rfl ?_ ?_
        · refine StepsE_cons rfl ?_ ?_
          · intro w17 hB14
            refine DepsE_nil ?_
            refine ⟨_, rfl, ?_⟩
            refine WL_load_box_agg [v7, (.int .i64 x4.2.1), (.int .i64 x4.2.2)] (hC35.grow hB14) 2 rfl rfl rfl Try.isAgg26 Try.sizeOf26 rfl rfl ?_
            refine WL_nil ?_
            exact FinE_val (Below.refl _ _) rfl rfl ⟨rfl, rfl⟩
          refine StepsE_cons rfl ?_ ?_
          · intro w17 hB14
            refine DepsE_nil ?_
            refine ⟨_, rfl, ?_⟩
            refine WL_load_box_agg [u1, (.int .i64 a1.2.1), (.int .i64 a1.2.2)] (hC35.grow hB14) 6 rfl rfl rfl Try.isAgg24 Try.sizeOf24 rfl rfl ?_
            refine WL_nil ?_
            exact FinE_val (Below.refl _ _) rfl rfl ⟨rfl, rfl⟩
          refine StepsE_cons rfl ?_ ?_
          · intro w17 hB14
            refine DepsE_cons rfl rfl rfl ?_
            rintro _ _ ⟨rfl, rfl⟩ _
            refine DepsE_nil ?_
            refine ⟨_, rfl, ?_⟩
            refine WL_call Try.call17 rfl rfl (c_Q_toLedger (a1.1, a1.2.1, a1.2.2) u1 (g1.now (hC35.keep.then hB14)) x8 hr8) ?_
            rintro v11 w16 ⟨hB13, F7, hv9, hn5, hb5⟩
            refine WL_nil ?_
            exact FinE_own hB13 rfl rfl hv9 hn5 hb5 (Val.inh hv9)
          exact StepsE_nil
        · intro w18 hB15
          refine AllE_cons rfl rfl rfl ?_
          rintro _ _ ⟨rfl, rfl⟩
          refine AllE_cons rfl rfl rfl ?_
          rintro _ _ ⟨rfl, rfl⟩
          refine AllE_cons rfl rfl rfl ?_
          intro v11 F7 hv9
          refine AllE_nil ?_
          intro hn6 hb6
          have hC36 := hC35.pushL hB15 (Bs := [Item.own v11 (x8 : ((List Int) × Int × Int))]) (Fs := [F7]) ⟨F7, _, rfl, hv9, rfl⟩ (by simpa using hn6) (fun b h => (hb6 b (by simpa using h)).1)
          obtain ⟨v13, rfl, hC37⟩ := st26_own hC36
          obtain ⟨x9, hr9, hF⟩ := bind_some hF
          refine WA_one 3 (by kernel_rfl) rfl ?_
          refine WL_call Try.call19 rfl rfl (c_Q_eqLedger (x4.1, x4.2.1, x4.2.2) v7 ((hC37.ro 4 rfl).now (Keep.refl _ _)) x8 v13 ((hC37.ro 0 rfl).now (Keep.refl _ _)) x9 hr9) ?_
          intro _ w19 hv10
          obtain ⟨rfl, hB16⟩ := res_bool hv10
          have hC38 := hC37.grow hB16
          refine WL_nil ?_
          refine WA_take 4 rfl (by kernel_rfl) (by kernel_rfl) (by kernel_rfl) rfl (fl_not rfl) ?_
          refine WL_not rfl rfl ?_
          refine WL_nil ?_
          refine WA_done (by kernel_rfl) ?_
          refine nrm_normal ?_
          refine W_cond rfl (fun hc4 => ?_) (fun hc4 => ?_)
          · replace hF := ite_t hF hc4
            refine W_seq_reg ?_
            refine WL_assign rfl rfl ?_
            refine WL_nil ?_
            refine W_ret ?_
            refine nrm_ret ?_
            have hq5 := Option.some.inj hF
            subst hq5
            refine fn_ret1 rfl rfl ?_
            exact ⟨_, rfl, bool_res hC38 _⟩
          · replace hF := ite_f hF hc4
            refine W_skip ?_
            refine nrm_normal ?_
            refine W_seq_reg ?_
            refine WL_assign rfl rfl ?_
            refine WL_nil ?_
            refine W_seq_reg ?_
            refine WL_load_box_agg [v7, (.int .i64 x4.2.1), (.int .i64 x4.2.2)] hC38 3 rfl rfl rfl Try.isAgg26 Try.sizeOf26 rfl rfl ?_
            refine WL_move rfl rfl ?_
            obtain ⟨x10, hr10, hF⟩ := bind_some hF
            have hC39 : Ctx [] w0 _ [Item.own v7 (x4.1 : (List Int)), Item.own v13 (x8.1 : (List Int)), Item.box b4 [v10, (.int .i64 x5.1.2.1), (.int .i64 x5.1.2.2)], Item.own v10 (x5.1.1 : (List Int)), Item.box b3 [v7, (.int .i64 x4.2.1), (.int .i64 x4.2.2)], Item.box b2 [v5, (.int .i64 x3.1.2.1), (.int .i64 x3.1.2.2)], Item.own v5 (x3.1.1 : (List Int)), Item.box b1 [u1, (.int .i64 a1.2.1), (.int .i64 a1.2.2)]] := hC38.front 4 rfl
            obtain ⟨Fs1, hH1, hn7, hF1, hO1, hb7⟩ := Ctx.lend2 (As := [Item.own v13 (x8.1 : (List Int)), Item.box b4 [v10, (.int .i64 x5.1.2.1), (.int .i64 x5.1.2.2)], Item.own v10 (x5.1.1 : (List Int)), Item.box b3 [v7, (.int .i64 x4.2.1), (.int .i64 x4.2.2)], Item.box b2 [v5, (.int .i64 x3.1.2.1), (.int .i64 x3.1.2.2)], Item.own v5 (x3.1.1 : (List Int)), Item.box b1 [u1, (.int .i64 a1.2.1), (.int .i64 a1.2.2)]]) [Item.own v7 (x4.1 : (List Int))] hC39
            refine WL_call Try.call20 rfl rfl (c_Q_markLedger (x4.1, x4.2.1, x4.2.2) v7 1 hH1 hn7 x10 hr10) ?_
            rintro _ w20 ⟨rfl, hq6⟩
            have hC40 : Ctx [] w0 w20 [Item.own v7 (x10.2.1 : (List Int)), Item.own v13 (x8.1 : (List Int)), Item.box b4 [v10, (.int .i64 x5.1.2.1), (.int .i64 x5.1.2.2)], Item.own v10 (x5.1.1 : (List Int)), Item.box b3 [v7, (.int .i64 x4.2.1), (.int .i64 x4.2.2)], Item.box b2 [v5, (.int .i64 x3.1.2.1), (.int .i64 x3.1.2.2)], Item.own v5 (x3.1.1 : (List Int)), Item.box b1 [u1, (.int .i64 a1.2.1), (.int .i64 a1.2.2)]] := hb7 _ _ hq6
            refine WL_assign rfl rfl ?_
            refine WL_nil ?_
            refine W_seq ?_
            obtain ⟨r2, hr11, hF⟩ := bind_some hF
            refine W_cut (fun l w => ∃ x11 : Bool, x11 = r2 ∧ l = [(1, (.int .i64 a2)), (2, (.int .i64 a3)), (3, (ptr b1 0)), (8, (ptr b2 0)), (9, (.bool x3.2)), (11, (ptr b4 0)), (69, (.bool x11))] ∧ Below w20.heap.size w20 w ∧ Ctx [] w0 w [Item.box b4 [v10, (.int .i64 x5.1.2.1), (.int .i64 x5.1.2.2)], Item.own v10 (x5.1.1 : (List Int)), Item.box b2 [v5, (.int .i64 x3.1.2.1), (.int .i64 x3.1.2.2)], Item.own v5 (x3.1.1 : (List Int)), Item.box b1 [u1, (.int .i64 a1.2.1), (.int .i64 a1.2.2)]]) ?_ ?_
            · refine W_reg ?_
              refine WL_move rfl rfl ?_
              refine WL_lss rfl rfl rfl ?_
              refine WL_move rfl rfl ?_
              refine WL_fork (fun hc5 => ?_) (fun hc5 => ?_)
              · replace hr11 := ite_t hr11 hc5
                refine WL_guard_skip rfl rfl (by simp) rfl ?_
                refine WL_guard_skip rfl rfl (by simp) rfl ?_
                refine WL_guard_skip rfl rfl (by simp) rfl ?_
                refine WL_guard_skip rfl rfl (by simp) rfl ?_
                refine WL_pick_t rfl rfl rfl ?_
                refine WL_move rfl rfl ?_
                refine WL_guard_skip rfl rfl (by simp) rfl ?_
                refine WL_guard_skip rfl rfl (by simp) rfl ?_
                refine WL_guard_skip rfl rfl (by simp) rfl ?_
                refine WL_pick_t rfl rfl rfl ?_
                refine WL_nil ?_
                have hq7 := Option.some.inj hr11
                subst hq7
                have hC42 : Ctx [] w0 _ [Item.box b1 [u1, (.int .i64 a1.2.1), (.int .i64 a1.2.2)], Item.own v7 (x10.2.1 : (List Int)), Item.own v13 (x8.1 : (List Int)), Item.box b4 [v10, (.int .i64 x5.1.2.1), (.int .i64 x5.1.2.2)], Item.own v10 (x5.1.1 : (List Int)), Item.box b3 [v7, (.int .i64 x4.2.1), (.int .i64 x4.2.2)], Item.box b2 [v5, (.int .i64 x3.1.2.1), (.int .i64 x3.1.2.2)], Item.own v5 (x3.1.1 : (List Int))] := hC40.front 7 rfl
                have hC43 : Ctx [] w0 _ [Item.own v5 (x3.1.1 : (List Int)), Item.box b1 [u1, (.int .i64 a1.2.1), (.int .i64 a1.2.2)], Item.own v7 (x10.2.1 : (List Int)), Item.own v13 (x8.1 : (List Int)), Item.box b4 [v10, (.int .i64 x5.1.2.1), (.int .i64 x5.1.2.2)], Item.own v10 (x5.1.1 : (List Int)), Item.box b3 [v7, (.int .i64 x4.2.1), (.int .i64 x4.2.2)], Item.box b2 [v5, (.int .i64 x3.1.2.1), (.int .i64 x3.1.2.2)]] := hC42.front 7 rfl
                have hC44 : Ctx [] w0 _ [Item.box b2 [v5, (.int .i64 x3.1.2.1), (.int .i64 x3.1.2.2)], Item.own v5 (x3.1.1 : (List Int)), Item.box b1 [u1, (.int .i64 a1.2.1), (.int .i64 a1.2.2)], Item.own v7 (x10.2.1 : (List Int)), Item.own v13 (x8.1 : (List Int)), Item.box b4 [v10, (.int .i64 x5.1.2.1), (.int .i64 x5.1.2.2)], Item.own v10 (x5.1.1 : (List Int)), Item.box b3 [v7, (.int .i64 x4.2.1), (.int .i64 x4.2.2)]] := hC43.front 7 rfl
                have hC45 : Ctx [] w0 _ [Item.own v10 (x5.1.1 : (List Int)), Item.box b2 [v5, (.int .i64 x3.1.2.1), (.int .i64 x3.1.2.2)], Item.own v5 (x3.1.1 : (List Int)), Item.box b1 [u1, (.int .i64 a1.2.1), (.int .i64 a1.2.2)], Item.own v7 (x10.2.1 : (List Int)), Item.own v13 (x8.1 : (List Int)), Item.box b4 [v10, (.int .i64 x5.1.2.1), (.int .i64 x5.1.2.2)], Item.box b3 [v7, (.int .i64 x4.2.1), (.int .i64 x4.2.2)]] := hC44.front 6 rfl
                have hC46 : Ctx [] w0 _ [Item.box b4 [v10, (.int .i64 x5.1.2.1), (.int .i64 x5.1.2.2)], Item.own v10 (x5.1.1 : (List Int)), Item.box b2 [v5, (.int .i64 x3.1.2.1), (.int .i64 x3.1.2.2)], Item.own v5 (x3.1.1 : (List Int)), Item.box b1 [u1, (.int .i64 a1.2.1), (.int .i64 a1.2.2)], Item.own v7 (x10.2.1 : (List Int)), Item.own v13 (x8.1 : (List Int)), Item.box b3 [v7, (.int .i64 x4.2.1), (.int .i64 x4.2.2)]] := hC45.front 6 rfl
                have hC47 : Ctx [] w0 _ [Item.box b4 [v10, (.int .i64 x5.1.2.1), (.int .i64 x5.1.2.2)], Item.own v10 (x5.1.1 : (List Int)), Item.box b2 [v5, (.int .i64 x3.1.2.1), (.int .i64 x3.1.2.2)], Item.own v5 (x3.1.1 : (List Int)), Item.box b1 [u1, (.int .i64 a1.2.1), (.int .i64 a1.2.2)]] := hC46.headN 5
                refine nrm_sub (l' := [(1, (.int .i64 a2)), (2, (.int .i64 a3)), (3, (ptr b1 0)), (8, (ptr b2 0)), (9, (.bool x3.2)), (11, (ptr b4 0)), (69, (.bool true))]) ⟨rfl, rfl, rfl, rfl, rfl, rfl, rfl, trivial⟩ ?_
                exact ⟨true, rfl, rfl, (Below.refl _ _), hC47⟩
              · replace hr11 := ite_f hr11 hc5
                refine WL_guard rfl rfl ?_
                refine WL_load_box_agg [v10, (.int .i64 x5.1.2.1), (.int .i64 x5.1.2.2)] hC40 2 rfl rfl rfl Try.isAgg26 Try.sizeOf26 rfl rfl ?_
                refine WL_guard rfl rfl ?_
                refine WL_load_box_agg [v5, (.int .i64 x3.1.2.1), (.int .i64 x3.1.2.2)] hC40 5 rfl rfl rfl Try.isAgg26 Try.sizeOf26 rfl rfl ?_
                obtain ⟨x12, hr12, hr11⟩ := bind_some hr11
                refine WL_guard rfl rfl ?_
                refine WL_call Try.call19 rfl rfl (c_Q_eqLedger (x5.1.1, x5.1.2.1, x5.1.2.2) v10 ((hC40.ro 3 rfl).now (Keep.refl _ _)) (x3.1.1, x3.1.2.1, x3.1.2.2) v5 ((hC40.ro 6 rfl).now (Keep.refl _ _)) x12 hr12) ?_
                intro _ w22 hv11
                obtain ⟨rfl, hB18⟩ := res_bool hv11
                have hC48 := hC40.grow hB18
                refine WL_guard rfl rfl ?_
                refine WL_not rfl rfl ?_
                refine WL_pick_f rfl rfl rfl ?_
                refine WL_move rfl rfl ?_
                refine WL_fork (fun hc6 => ?_) (fun hc6 => ?_)
                · replace hr11 := ite_t hr11 hc6
                  refine WL_guard_skip rfl rfl (by simp) rfl ?_
                  refine WL_guard_skip rfl rfl (by simp) rfl ?_
                  refine WL_guard_skip rfl rfl (by simp) rfl ?_
                  refine WL_pick_t rfl rfl rfl ?_
                  refine WL_nil ?_
                  have hq8 := Option.some.inj hr11
                  subst hq8
                  have hC49 : Ctx [] w0 _ [Item.box b1 [u1, (.int .i64 a1.2.1), (.int .i64 a1.2.2)], Item.own v7 (x10.2.1 : (List Int)), Item.own v13 (x8.1 : (List Int)), Item.box b4 [v10, (.int .i64 x5.1.2.1), (.int .i64 x5.1.2.2)], Item.own v10 (x5.1.1 : (List Int)), Item.box b3 [v7, (.int .i64 x4.2.1), (.int .i64 x4.2.2)], Item.box b2 [v5, (.int .i64 x3.1.2.1), (.int .i64 x3.1.2.2)], Item.own v5 (x3.1.1 : (List Int))] := hC48.front 7 rfl
                  have hC50 : Ctx [] w0 _ [Item.own v5 (x3.1.1 : (List Int)), Item.box b1 [u1, (.int .i64 a1.2.1), (.int .i64 a1.2.2)], Item.own v7 (x10.2.1 : (List Int)), Item.own v13 (x8.1 : (List Int)), Item.box b4 [v10, (.int .i64 x5.1.2.1), (.int .i64 x5.1.2.2)], Item.own v10 (x5.1.1 : (List Int)), Item.box b3 [v7, (.int .i64 x4.2.1), (.int .i64 x4.2.2)], Item.box b2 [v5, (.int .i64 x3.1.2.1), (.int .i64 x3.1.2.2)]] := hC49.front 7 rfl
                  have hC51 : Ctx [] w0 _ [Item.box b2 [v5, (.int .i64 x3.1.2.1), (.int .i64 x3.1.2.2)], Item.own v5 (x3.1.1 : (List Int)), Item.box b1 [u1, (.int .i64 a1.2.1), (.int .i64 a1.2.2)], Item.own v7 (x10.2.1 : (List Int)), Item.own v13 (x8.1 : (List Int)), Item.box b4 [v10, (.int .i64 x5.1.2.1), (.int .i64 x5.1.2.2)], Item.own v10 (x5.1.1 : (List Int)), Item.box b3 [v7, (.int .i64 x4.2.1), (.int .i64 x4.2.2)]] := hC50.front 7 rfl
                  have hC52 : Ctx [] w0 _ [Item.own v10 (x5.1.1 : (List Int)), Item.box b2 [v5, (.int .i64 x3.1.2.1), (.int .i64 x3.1.2.2)], Item.own v5 (x3.1.1 : (List Int)), Item.box b1 [u1, (.int .i64 a1.2.1), (.int .i64 a1.2.2)], Item.own v7 (x10.2.1 : (List Int)), Item.own v13 (x8.1 : (List Int)), Item.box b4 [v10, (.int .i64 x5.1.2.1), (.int .i64 x5.1.2.2)], Item.box b3 [v7, (.int .i64 x4.2.1), (.int .i64 x4.2.2)]] := hC51.front 6 rfl
                  have hC53 : Ctx [] w0 _ [Item.box b4 [v10, (.int .i64 x5.1.2.1), (.int .i64 x5.1.2.2)], Item.own v10 (x5.1.1 : (List Int)), Item.box b2 [v5, (.int .i64 x3.1.2.1), (.int .i64 x3.1.2.2)], Item.own v5 (x3.1.1 : (List Int)), Item.box b1 [u1, (.int .i64 a1.2.1), (.int .i64 a1.2.2)], Item.own v7 (x10.2.1 : (List Int)), Item.own v13 (x8.1 : (List Int)), Item.box b3 [v7, (.int .i64 x4.2.1), (.int .i64 x4.2.2)]] := hC52.front 6 rfl
                  have hC54 : Ctx [] w0 _ [Item.box b4 [v10, (.int .i64 x5.1.2.1), (.int .i64 x5.1.2.2)], Item.own v10 (x5.1.1 : (List Int)), Item.box b2 [v5, (.int .i64 x3.1.2.1), (.int .i64 x3.1.2.2)], Item.own v5 (x3.1.1 : (List Int)), Item.box b1 [u1, (.int .i64 a1.2.1), (.int .i64 a1.2.2)]] := hC53.headN 5
                  refine nrm_sub (l' := [(1, (.int .i64 a2)), (2, (.int .i64 a3)), (3, (ptr b1 0)), (8, (ptr b2 0)), (9, (.bool x3.2)), (11, (ptr b4 0)), (69, (.bool true))]) ⟨rfl, rfl, rfl, rfl, rfl, rfl, rfl, trivial⟩ ?_
                  exact ⟨true, rfl, rfl, (Keep.of hB18).below, hC54⟩
                · replace hr11 := ite_f hr11 hc6
                  refine WL_guard rfl rfl ?_
                  refine WL_move rfl rfl ?_
                  refine WL_guard rfl rfl ?_
                  refine WL_move rfl rfl ?_
                  refine WL_guard rfl rfl ?_
                  refine WL_bool_neq Try.underlying4 rfl rfl rfl ?_
                  refine WL_pick_f rfl rfl rfl ?_
                  refine WL_nil ?_
                  have hq9 := Option.some.inj hr11
                  subst hq9
                  have hC55 : Ctx [] w0 _ [Item.box b1 [u1, (.int .i64 a1.2.1), (.int .i64 a1.2.2)], Item.own v7 (x10.2.1 : (List Int)), Item.own v13 (x8.1 : (List Int)), Item.box b4 [v10, (.int .i64 x5.1.2.1), (.int .i64 x5.1.2.2)], Item.own v10 (x5.1.1 : (List Int)), Item.box b3 [v7, (.int .i64 x4.2.1), (.int .i64 x4.2.2)], Item.box b2 [v5, (.int .i64 x3.1.2.1), (.int .i64 x3.1.2.2)], Item.own v5 (x3.1.1 : (List Int))] := hC48.front 7 rfl
                  have hC56 : Ctx [] w0 _ [Item.own v5 (x3.1.1 : (List Int)), Item.box b1 [u1, (.int .i64 a1.2.1), (.int .i64 a1.2.2)], Item.own v7 (x10.2.1 : (List Int)), Item.own v13 (x8.1 : (List Int)), Item.box b4 [v10, (.int .i64 x5.1.2.1), (.int .i64 x5.1.2.2)], Item.own v10 (x5.1.1 : (List Int)), Item.box b3 [v7, (.int .i64 x4.2.1), (.int .i64 x4.2.2)], Item.box b2 [v5, (.int .i64 x3.1.2.1), (.int .i64 x3.1.2.2)]] := hC55.front 7 rfl
                  have hC57 : Ctx [] w0 _ [Item.box b2 [v5, (.int .i64 x3.1.2.1), (.int .i64 x3.1.2.2)], Item.own v5 (x3.1.1 : (List Int)), Item.box b1 [u1, (.int .i64 a1.2.1), (.int .i64 a1.2.2)], Item.own v7 (x10.2.1 : (List Int)), Item.own v13 (x8.1 : (List Int)), Item.box b4 [v10, (.int .i64 x5.1.2.1), (.int .i64 x5.1.2.2)], Item.own v10 (x5.1.1 : (List Int)), Item.box b3 [v7, (.int .i64 x4.2.1), (.int .i64 x4.2.2)]] := hC56.front 7 rfl
                  have hC58 : Ctx [] w0 _ [Item.own v10 (x5.1.1 : (List Int)), Item.box b2 [v5, (.int .i64 x3.1.2.1), (.int .i64 x3.1.2.2)], Item.own v5 (x3.1.1 : (List Int)), Item.box b1 [u1, (.int .i64 a1.2.1), (.int .i64 a1.2.2)], Item.own v7 (x10.2.1 : (List Int)), Item.own v13 (x8.1 : (List Int)), Item.box b4 [v10, (.int .i64 x5.1.2.1), (.int .i64 x5.1.2.2)], Item.box b3 [v7, (.int .i64 x4.2.1), (.int .i64 x4.2.2)]] := hC57.front 6 rfl
                  have hC59 : Ctx [] w0 _ [Item.box b4 [v10, (.int .i64 x5.1.2.1), (.int .i64 x5.1.2.2)], Item.own v10 (x5.1.1 : (List Int)), Item.box b2 [v5, (.int .i64 x3.1.2.1), (.int .i64 x3.1.2.2)], Item.own v5 (x3.1.1 : (List Int)), Item.box b1 [u1, (.int .i64 a1.2.1), (.int .i64 a1.2.2)], Item.own v7 (x10.2.1 : (List Int)), Item.own v13 (x8.1 : (List Int)), Item.box b3 [v7, (.int .i64 x4.2.1), (.int .i64 x4.2.2)]] := hC58.front 6 rfl
                  have hC60 : Ctx [] w0 _ [Item.box b4 [v10, (.int .i64 x5.1.2.1), (.int .i64 x5.1.2.2)], Item.own v10 (x5.1.1 : (List Int)), Item.box b2 [v5, (.int .i64 x3.1.2.1), (.int .i64 x3.1.2.2)], Item.own v5 (x3.1.1 : (List Int)), Item.box b1 [u1, (.int .i64 a1.2.1), (.int .i64 a1.2.2)]] := hC59.headN 5
                  refine nrm_sub (l' := [(1, (.int .i64 a2)), (2, (.int .i64 a3)), (3, (ptr b1 0)), (8, (ptr b2 0)), (9, (.bool x3.2)), (11, (ptr b4 0)), (69, (.bool (!decide (x5.2 = x3.2))))]) ⟨rfl, rfl, rfl, rfl, rfl, rfl, rfl, trivial⟩ ?_
                  exact ⟨(!decide (x5.2 = x3.2)), rfl, rfl, (Keep.of hB18).below, hC60⟩
            · rintro _ w21 ⟨x11, rfl, rfl, hB17, hC41⟩
              try dsimp only at hF
              refine W_cond rfl (fun hc7 => ?_) (fun hc7 => ?_)
              · replace hF := ite_t hF hc7
                refine W_seq_reg ?_
                refine WL_assign rfl rfl ?_
                refine WL_nil ?_
                refine W_ret ?_
                refine nrm_ret ?_
                have hq10 := Option.some.inj hF
                subst hq10
                refine fn_ret1 rfl rfl ?_
                exact ⟨_, rfl, bool_res hC41 _⟩
              · replace hF := ite_f hF hc7
                refine W_skip ?_
                refine nrm_normal ?_
                refine W_seq_reg ?_
                refine WL_assign rfl rfl ?_
                refine WL_nil ?_
                refine W_seq_reg ?_
                refine WL_load_box_agg [v10, (.int .i64 x5.1.2.1), (.int .i64 x5.1.2.2)] hC41 0 rfl rfl rfl Try.isAgg26 Try.sizeOf26 rfl rfl ?_
                refine WL_move rfl rfl ?_
                obtain ⟨x13, hr13, hF⟩ := bind_some hF
                have hC61 : Ctx [] w0 _ [Item.own v10 (x5.1.1 : (List Int)), Item.box b4 [v10, (.int .i64 x5.1.2.1), (.int .i64 x5.1.2.2)], Item.box b2 [v5, (.int .i64 x3.1.2.1), (.int .i64 x3.1.2.2)], Item.own v5 (x3.1.1 : (List Int)), Item.box b1 [u1, (.int .i64 a1.2.1), (.int .i64 a1.2.2)]] := hC41.front 1 rfl
                obtain ⟨Fs2, hH2, hn8, hF2, hO2, hb8⟩ := Ctx.lend2 (As := [Item.box b4 [v10, (.int .i64 x5.1.2.1), (.int .i64 x5.1.2.2)], Item.box b2 [v5, (.int .i64 x3.1.2.1), (.int .i64 x3.1.2.2)], Item.own v5 (x3.1.1 : (List Int)), Item.box b1 [u1, (.int .i64 a1.2.1), (.int .i64 a1.2.2)]]) [Item.own v10 (x5.1.1 : (List Int))] hC61
                refine WL_call Try.call20 rfl rfl (c_Q_markLedger (x5.1.1, x5.1.2.1, x5.1.2.2) v10 1 hH2 hn8 x13 hr13) ?_
                rintro _ w23 ⟨rfl, hq11⟩
                have hC62 : Ctx [] w0 w23 [Item.own v10 (x13.2.1 : (List Int)), Item.box b4 [v10, (.int .i64 x5.1.2.1), (.int .i64 x5.1.2.2)], Item.box b2 [v5, (.int .i64 x3.1.2.1), (.int .i64 x3.1.2.2)], Item.own v5 (x3.1.1 : (List Int)), Item.box b1 [u1, (.int .i64 a1.2.1), (.int .i64 a1.2.2)]] := hb8 _ _ hq11
                refine WL_assign rfl rfl ?_
                refine WL_nil ?_
                refine W_seq_reg ?_
                refine WL_assign rfl rfl ?_
                refine WL_nil ?_
                refine W_seq_reg ?_
                refine WL_load_box_agg [v10, (.int .i64 x5.1.2.1), (.int .i64 x5.1.2.2)] hC62 1 rfl rfl rfl Try.isAgg26 Try.sizeOf26 rfl rfl ?_
                refine WL_move rfl rfl ?_
                obtain ⟨x14, hr14, hF⟩ := bind_some hF
                refine WL_call Try.call21 rfl rfl (c_Q_heldLedger (x13.2.1, x5.1.2.1, x5.1.2.2) v10 ((hC62.ro 0 rfl).now (Keep.refl _ _)) 1 x14 hr14) ?_
                intro _ w24 hv12
                obtain ⟨rfl, hB19⟩ := res_int hv12
                have hC63 := hC62.grow hB19
                refine WL_assign rfl rfl ?_
                refine WL_nil ?_
                refine W_seq ?_
                refine W_seq_reg ?_
                refine WL_move rfl rfl ?_
                refine WL_lss rfl rfl rfl ?_
                refine WL_nil ?_
                refine W_cond rfl (fun hc8 => ?_) (fun hc8 => ?_)
                · replace hF := ite_t hF hc8
                  refine W_seq_reg ?_
                  refine WL_assign rfl rfl ?_
                  refine WL_nil ?_
                  refine W_ret ?_
                  refine nrm_ret ?_
                  have hq12 := Option.some.inj hF
                  subst hq12
                  refine fn_ret1 rfl rfl ?_
                  exact ⟨_, rfl, bool_res hC63 _⟩
                · replace hF := ite_f hF hc8
                  refine W_skip ?_
                  refine nrm_normal ?_
                  refine W_seq ?_
                  refine W_seq_reg ?_
                  refine WL_move rfl rfl ?_
                  refine WL_move rfl rfl ?_
                  refine WL_neq rfl rfl rfl ?_
                  refine WL_nil ?_
                  refine W_cond rfl (fun hc9 => ?_) (fun hc9 => ?_)
                  · replace hF := ite_t hF hc9
                    refine W_seq_reg ?_
                    refine WL_assign rfl rfl ?_
                    refine WL_nil ?_
                    refine W_ret ?_
                    refine nrm_ret ?_
                    have hq13 := Option.some.inj hF
                    subst hq13
                    refine fn_ret1 rfl rfl ?_
                    exact ⟨_, rfl, bool_res hC63 _⟩
                  · replace hF := ite_f hF hc9
                    refine W_skip ?_
                    refine nrm_normal ?_
                    refine W_seq_reg ?_
                    refine WL_load_box_agg [u1, (.int .i64 a1.2.1), (.int .i64 a1.2.2)] hC63 4 rfl rfl rfl Try.isAgg24 Try.sizeOf24 rfl rfl ?_
                    obtain ⟨x15, hr15, hF⟩ := bind_some hF
                    refine WL_call Try.call17 rfl rfl (c_Q_toLedger (a1.1, a1.2.1, a1.2.2) u1 (g1.now hC63.keep) x15 hr15) ?_
                    rintro v14 w25 ⟨hB20, F8, hv13, hn9, hb9⟩
                    have hC64 := hC63.push hB20 (A := Item.own v14 x15) hv13 hn9 hb9
                    obtain ⟨v15, rfl, hC65⟩ := st26_own hC64
                    refine WL_move rfl rfl ?_
                    refine WL_move rfl rfl ?_
                    obtain ⟨x16, hr16, hF⟩ := bind_some hF
                    refine WL_call Try.call18 rfl rfl (c_M_ReceiveCall x15 v15 ((hC65.ro 0 rfl).now (Keep.refl _ _)) a2 a3 x16 hr16) ?_
                    rintro _ w26 ⟨hB21, v16, v17, F9, F10, rfl, hv14, hv15, hn10, hb10⟩
                    obtain ⟨rfl, rfl⟩ := val_bool hv15
                    have hC66 := hC65.pushL hB21 (Bs := [Item.own v16 x16.1]) (Fs := [F9]) ⟨F9, _, rfl, hv14, rfl⟩ (by simpa using hn10) (fun b h => hb10 b (by simpa using h))
                    obtain ⟨v18, rfl, hC67⟩ := st26_own hC66
                    refine WL_move rfl rfl ?_
                    refine WL_extract rfl rfl rfl ?_
                    refine WL_extract rfl rfl rfl ?_
                    refine WL_alloc hC67 zero26 rfl rfl (fun b5 w27 hC68 hB22 => ?_)
                    refine WL_store_box_agg (cs' := [v18, (.int .i64 x16.1.2.1), (.int .i64 x16.1.2.2)]) (new := [v18, (.int .i64 x16.1.2.1), (.int .i64 x16.1.2.2)]) hC68 0 rfl rfl (by intro v hv; simp only [List.mem_cons, List.not_mem_nil, or_false] at hv; rcases hv with rfl | rfl | rfl; exact (ro_one (hC68.ro 1 rfl)); exact rfl; exact rfl) rfl Try.sizeOf26 rfl rfl (fun w28 hC69 => ?_)
                    try dsimp only [List.set] at hC69
                    refine WL_assign rfl rfl ?_
                    refine WL_nil ?_
                    refine W_seq ?_
                    obtain ⟨r3, hr17, hF⟩ := bind_some hF
                    refine W_cut (fun l w => ∃ x17 : Bool, x17 = r3 ∧ l = [(11, (ptr b4 0)), (14, (.int .i64 x13.1)), (97, (.bool x17))] ∧ Below w28.heap.size w28 w ∧ Ctx [] w0 w [Item.own v10 (x13.2.1 : (List Int)), Item.box b4 [v10, (.int .i64 x5.1.2.1), (.int .i64 x5.1.2.2)]]) ?_ ?_
                    · refine W_reg ?_
                      refine WL_load_box_agg [v18, (.int .i64 x16.1.2.1), (.int .i64 x16.1.2.2)] hC69 0 rfl rfl rfl Try.isAgg26 Try.sizeOf26 rfl rfl ?_
                      refine WL_load_box_agg [v5, (.int .i64 x3.1.2.1), (.int .i64 x3.1.2.2)] hC69 5 rfl rfl rfl Try.isAgg26 Try.sizeOf26 rfl rfl ?_
                      obtain ⟨x18, hr18, hr17⟩ := bind_some hr17
                      refine WL_call Try.call19 rfl rfl (c_Q_eqLedger (x16.1.1, x16.1.2.1, x16.1.2.2) v18 ((hC69.ro 1 rfl).now (Keep.refl _ _)) (x3.1.1, x3.1.2.1, x3.1.2.2) v5 ((hC69.ro 6 rfl).now (Keep.refl _ _)) x18 hr18) ?_
                      intro _ w30 hv16
                      obtain ⟨rfl, hB24⟩ := res_bool hv16
                      have hC71 := hC69.grow hB24
                      refine WL_not rfl rfl ?_
                      refine WL_move rfl rfl ?_
                      refine WL_fork (fun hc10 => ?_) (fun hc10 => ?_)
                      · replace hr17 := ite_t hr17 hc10
                        refine WL_guard_skip rfl rfl (by simp) rfl ?_
                        refine WL_guard_skip rfl rfl (by simp) rfl ?_
                        refine WL_guard_skip rfl rfl (by simp) rfl ?_
                        refine WL_pick_t rfl rfl rfl ?_
                        refine WL_nil ?_
                        have hq14 := Option.some.inj hr17
                        subst hq14
                        have hC72 : Ctx [] w0 _ [Item.box b4 [v10, (.int .i64 x5.1.2.1), (.int .i64 x5.1.2.2)], Item.box b5 [v18, (.int .i64 x16.1.2.1), (.int .i64 x16.1.2.2)], Item.own v18 (x16.1.1 : (List Int)), Item.own v15 (x15.1 : (List Int)), Item.own v10 (x13.2.1 : (List Int)), Item.box b2 [v5, (.int .i64 x3.1.2.1), (.int .i64 x3.1.2.2)], Item.own v5 (x3.1.1 : (List Int)), Item.box b1 [u1, (.int .i64 a1.2.1), (.int .i64 a1.2.2)]] := hC71.front 4 rfl
                        have hC73 : Ctx [] w0 _ [Item.own v10 (x13.2.1 : (List Int)), Item.box b4 [v10, (.int .i64 x5.1.2.1), (.int .i64 x5.1.2.2)], Item.box b5 [v18, (.int .i64 x16.1.2.1), (.int .i64 x16.1.2.2)], Item.own v18 (x16.1.1 : (List Int)), Item.own v15 (x15.1 : (List Int)), Item.box b2 [v5, (.int .i64 x3.1.2.1), (.int .i64 x3.1.2.2)], Item.own v5 (x3.1.1 : (List Int)), Item.box b1 [u1, (.int .i64 a1.2.1), (.int .i64 a1.2.2)]] := hC72.front 4 rfl
                        have hC74 : Ctx [] w0 _ [Item.own v10 (x13.2.1 : (List Int)), Item.box b4 [v10, (.int .i64 x5.1.2.1), (.int .i64 x5.1.2.2)]] := hC73.headN 2
                        refine nrm_sub (l' := [(11, (ptr b4 0)), (14, (.int .i64 x13.1)), (97, (.bool true))]) ⟨rfl, rfl, rfl, trivial⟩ ?_
                        exact ⟨true, rfl, rfl, (Keep.of hB24).below, hC74⟩
                      · replace hr17 := ite_f hr17 hc10
                        refine WL_guard rfl rfl ?_
                        refine WL_move rfl rfl ?_
                        refine WL_guard rfl rfl ?_
                        refine WL_move rfl rfl ?_
                        refine WL_guard rfl rfl ?_
                        refine WL_bool_neq Try.underlying4 rfl rfl rfl ?_
                        refine WL_pick_f rfl rfl rfl ?_
                        refine WL_nil ?_
                        have hq15 := Option.some.inj hr17
                        subst hq15
                        have hC75 : Ctx [] w0 _ [Item.box b4 [v10, (.int .i64 x5.1.2.1), (.int .i64 x5.1.2.2)], Item.box b5 [v18, (.int .i64 x16.1.2.1), (.int .i64 x16.1.2.2)], Item.own v18 (x16.1.1 : (List Int)), Item.own v15 (x15.1 : (List Int)), Item.own v10 (x13.2.1 : (List Int)), Item.box b2 [v5, (.int .i64 x3.1.2.1), (.int .i64 x3.1.2.2)], Item.own v5 (x3.1.1 : (List Int)), Item.box b1 [u1, (.int .i64 a1.2.1), (.int .i64 a1.2.2)]] := hC71.front 4 rfl
                        have hC76 : Ctx [] w0 _ [Item.own v10 (x13.2.1 : (List Int)), Item.box b4 [v10, (.int .i64 x5.1.2.1), (.int .i64 x5.1.2.2)], Item.box b5 [v18, (.int .i64 x16.1.2.1), (.int .i64 x16.1.2.2)], Item.own v18 (x16.1.1 : (List Int)), Item.own v15 (x15.1 : (List Int)), Item.box b2 [v5, (.int .i64 x3.1.2.1), (.int .i64 x3.1.2.2)], Item.own v5 (x3.1.1 : (List Int)), Item.box b1 [u1, (.int .i64 a1.2.1), (.int .i64 a1.2.2)]] := hC75.front 4 rfl
                        have hC77 : Ctx [] w0 _ [Item.own v10 (x13.2.1 : (List Int)), Item.box b4 [v10, (.int .i64 x5.1.2.1), (.int .i64 x5.1.2.2)]] := hC76.headN 2
                        refine nrm_sub (l' := [(11, (ptr b4 0)), (14, (.int .i64 x13.1)), (97, (.bool (!decide (x16.2 = x3.2))))]) ⟨rfl, rfl, rfl, trivial⟩ ?_
                        exact ⟨(!decide (x16.2 = x3.2)), rfl, rfl, (Keep.of hB24).below, hC77⟩
                    · rintro _ w29 ⟨x17, rfl, rfl, hB23, hC70⟩
                      try dsimp only at hF
                      refine W_cond rfl (fun hc11 => ?_) (fun hc11 => ?_)
                      · replace hF := ite_t hF hc11
                        refine W_seq_reg ?_
                        refine WL_assign rfl rfl ?_
                        refine WL_nil ?_
                        refine W_ret ?_
                        refine nrm_ret ?_
                        have hq16 := Option.some.inj hF
                        subst hq16
                        refine fn_ret1 rfl rfl ?_
                        exact ⟨_, rfl, bool_res hC70 _⟩
                      · replace hF := ite_f hF hc11
                        refine W_skip ?_
                        refine nrm_normal ?_
                        refine W_seq_reg ?_
                        refine WL_assign rfl rfl ?_
                        refine WL_nil ?_
                        refine W_seq_reg ?_
                        refine WL_load_box_agg [v10, (.int .i64 x5.1.2.1), (.int .i64 x5.1.2.2)] hC70 1 rfl rfl rfl Try.isAgg26 Try.sizeOf26 rfl rfl ?_
                        refine WL_move rfl rfl ?_
                        obtain ⟨x19, hr19, hF⟩ := bind_some hF
                        refine WL_call Try.call21 rfl rfl (c_Q_heldLedger (x13.2.1, x5.1.2.1, x5.1.2.2) v10 ((hC70.ro 0 rfl).now (Keep.refl _ _)) 1 x19 hr19) ?_
                        intro _ w31 hv17
                        obtain ⟨rfl, hB25⟩ := res_int hv17
                        have hC78 := hC70.grow hB25
                        refine WL_assign rfl rfl ?_
                        refine WL_nil ?_
                        refine W_seq ?_
                        refine W_seq_reg ?_
                        refine WL_move rfl rfl ?_
                        refine WL_lss rfl rfl rfl ?_
                        refine WL_nil ?_
                        refine W_cond rfl (fun hc12 => ?_) (fun hc12 => ?_)
                        · replace hF := ite_t hF hc12
                          refine W_seq_reg ?_
                          refine WL_assign rfl rfl ?_
                          refine WL_nil ?_
                          refine W_ret ?_
                          refine nrm_ret ?_
                          have hq17 := Option.some.inj hF
                          subst hq17
                          refine fn_ret1 rfl rfl ?_
                          exact ⟨_, rfl, bool_res hC78 _⟩
                        · replace hF := ite_f hF hc12
                          refine W_skip ?_
                          refine nrm_normal ?_
                          refine W_seq ?_
                          refine W_seq_reg ?_
                          refine WL_move rfl rfl ?_
                          refine WL_move rfl rfl ?_
                          refine WL_neq rfl rfl rfl ?_
                          refine WL_nil ?_
                          refine W_cond rfl (fun hc13 => ?_) (fun hc13 => ?_)
                          · replace hF := ite_t hF hc13
                            refine W_seq_reg ?_
                            refine WL_assign rfl rfl ?_
                            refine WL_nil ?_
                            refine W_ret ?_
                            refine nrm_ret ?_
                            have hq18 := Option.some.inj hF
                            subst hq18
                            refine fn_ret1 rfl rfl ?_
                            exact ⟨_, rfl, bool_res hC78 _⟩
                          · replace hF := ite_f hF hc13
                            refine W_skip ?_
                            refine nrm_normal ?_
                            refine W_seq_reg ?_
                            refine WL_assign rfl rfl ?_
                            refine WL_nil ?_
                            refine W_ret ?_
                            have hq19 := Option.some.inj hF
                            subst hq19
                            refine fn_ret1 rfl rfl ?_
                            exact ⟨_, rfl, bool_res hC78 _⟩

end Go.Gx.Px
