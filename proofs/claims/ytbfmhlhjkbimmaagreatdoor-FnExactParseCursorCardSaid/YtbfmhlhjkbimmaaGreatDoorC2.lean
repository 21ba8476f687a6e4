/- The contracts of the Go functions against the pure functions, printed by program. Conditions: each says them. -/
import Derived.Test.YtbfmhlhjkbimmaaGreatDoorC1
set_option linter.unusedVariables false
set_option linter.unusedSimpArgs false
set_option maxRecDepth 100000
set_option maxHeartbeats 4000000
namespace Go.Gx.Px
open Go.Proofs Go.RowKit

theorem c_Q_FnExactParseCursor {w0 : World} (hT : HasTab w0) (a1 : Str) (rr : Bool) (hF : Q.FnExactParseCursor a1 = some rr) :
 Calls Tryz.prog 3 [(sv a1)].toArray w0 fun e w' => ∃ v, e = .returned v ∧ Res w0 rr v w' := by
 refine calls_of_W Tryz.func3 rfl rfl ?_
 have hC0 := Ctx.start w0
 unfold Q.FnExactParseCursor at hF
 refine W_seq_reg ?_
 refine WL_assign rfl rfl ?_
 refine WL_nil (W_seq (W_seq_reg ?_))
 refine WL_move rfl rfl ?_
 refine WL_len_str Tryz.underlying9 rfl rfl ?_
 refine WL_gtr rfl rfl rfl ?_
 refine WL_nil ?_
 refine W_cond rfl (fun hc1 => ?_) (fun hc1 => ?_)
 ·replace hF := ite_t hF hc1
  refine W_seq_reg ?_
  refine WL_assign rfl rfl ?_
  refine WL_nil (W_ret (nrm_ret ?_))
  have hq1 := Option.some.inj hF
  subst hq1
  refine fn_ret1 rfl rfl ?_
  exact ⟨_, rfl, bool_res hC0 _⟩
 replace hF := ite_f hF hc1
 refine W_skip (nrm_normal (W_seq_reg ?_))
 refine WL_move rfl rfl ?_
 obtain ⟨x1, hr1, hF⟩ := bind_some hF
 refine WL_call Tryz.call5 rfl rfl (c_S_ParseCursor a1 x1 hr1) ?_
 rintro _ w1 ⟨hB1, v1, v2, F1, F2, rfl, hv1, hv2, hn1, hb1⟩
 obtain ⟨rfl, rfl⟩ := val_bool hv2
 have hC1 := hC0.pushL hB1 (Bs := [Item.own v1 x1.1]) (Fs := [F1]) ⟨F1, _, rfl, hv1, rfl⟩ (by simpa using hn1) (fun b h => hb1 b (by simpa using h))
 obtain ⟨v3, rfl, hC2⟩ := st26_own hC1
 refine WL_move rfl rfl ?_
 refine WL_extract rfl rfl rfl ?_
 refine WL_extract rfl rfl rfl ?_
 refine WL_allocK hC2 zero26 rfl rfl (fun b1 w2 hC3 hB2 hN1 => ?_)
 refine WL_store_box_aggK (cs' := [(.int .i64 x1.1.1.1), v3, (.int .i64 x1.1.2.1), (.int .i64 x1.1.2.2)]) (new := [(.int .i64 x1.1.1.1), v3, (.int .i64 x1.1.2.1), (.int .i64 x1.1.2.2)]) hC3 0 rfl rfl (by intro v hv; simp only [List.mem_cons, List.not_mem_nil, or_false] at hv; rcases hv with rfl | rfl | rfl | rfl; exact rfl; exact (ro_one (hC3.ro 1 rfl)); exact rfl; exact rfl) rfl Tryz.sizeOf26 rfl rfl (fun w3 hC4 hKp1 => ?_)
 try dsimp only [List.set] at hC4
 have hk1 := Keep.over ((Keep.of hB1).then hB2) (Nat.le_trans (Keep.of hB1).size hN1) hKp1
 have hk2 := Keep.over (Keep.of hB2) hN1 hKp1
 refine WL_assign rfl rfl ?_
 refine WL_nil (W_seq_reg ?_)
 refine WL_move rfl rfl ?_
 obtain ⟨x2, hr2, hF⟩ := bind_some hF
 refine WL_call Tryz.call6 rfl rfl (c_M_ParseCursor (hT.keep hC4.keep) a1 x2 hr2) ?_
 rintro _ w4 ⟨hB3, v4, v5, F3, F4, rfl, hv3, hv4, hn2, hb2⟩
 obtain ⟨rfl, rfl⟩ := val_bool hv4
 have hC5 := hC4.pushL hB3 (Bs := [Item.own v4 x2.1]) (Fs := [F3]) ⟨F3, _, rfl, hv3, rfl⟩ (by simpa using hn2) (fun b h => hb2 b (by simpa using h))
 obtain ⟨v6, rfl, hC6⟩ := st26_own hC5
 refine WL_move rfl rfl ?_
 refine WL_extract rfl rfl rfl ?_
 refine WL_extract rfl rfl rfl ?_
 refine WL_allocK hC6 zero26 rfl rfl (fun b2 w5 hC7 hB4 hN2 => ?_)
 refine WL_store_box_aggK (cs' := [(.int .i64 x2.1.1.1), v6, (.int .i64 x2.1.2.1), (.int .i64 x2.1.2.2)]) (new := [(.int .i64 x2.1.1.1), v6, (.int .i64 x2.1.2.1), (.int .i64 x2.1.2.2)]) hC7 0 rfl rfl (by intro v hv; simp only [List.mem_cons, List.not_mem_nil, or_false] at hv; rcases hv with rfl | rfl | rfl | rfl; exact rfl; exact (ro_one (hC7.ro 1 rfl)); exact rfl; exact rfl) rfl Tryz.sizeOf26 rfl rfl (fun w6 hC8 hKp2 => ?_)
 try dsimp only [List.set] at hC8
 have hk3 := Keep.over ((hk1.then hB3).then hB4) (Nat.le_trans (hk1.then hB3).size hN2) hKp2
 have hk4 := Keep.over ((hk2.then hB3).then hB4) (Nat.le_trans (hk2.then hB3).size hN2) hKp2
 have hk5 := Keep.over ((Keep.of hB3).then hB4) (Nat.le_trans (Keep.of hB3).size hN2) hKp2
 have hk6 := Keep.over (Keep.of hB4) hN2 hKp2
 refine WL_assign rfl rfl ?_
 refine WL_nil (W_seq ?_)
 obtain ⟨r1, hr3, hF⟩ := bind_some hF
 refine W_cut (fun l w => ∃ x3 : Bool, x3 = r1 ∧ l = [(0, (sv a1)), (3, (ptr b1 0)), (4, (.bool x1.2)), (5, (ptr b2 0)), (32, (.bool x3))] ∧ Below w6.heap.size w6 w ∧ Ctx [] w0 w [Item.box b2 [(.int .i64 x2.1.1.1), v6, (.int .i64 x2.1.2.1), (.int .i64 x2.1.2.2)], Item.own v6 (x2.1.1.2 : (List Int)), Item.box b1 [(.int .i64 x1.1.1.1), v3, (.int .i64 x1.1.2.1), (.int .i64 x1.1.2.2)], Item.own v3 (x1.1.1.2 : (List Int))]) ?_ ?_
 ·refine W_reg ?_
  refine WL_load_box_agg [(.int .i64 x2.1.1.1), v6, (.int .i64 x2.1.2.1), (.int .i64 x2.1.2.2)] hC8 0 rfl rfl rfl Tryz.isAgg26 Tryz.sizeOf26 rfl rfl ?_
  refine WL_load_box_agg [(.int .i64 x1.1.1.1), v3, (.int .i64 x1.1.2.1), (.int .i64 x1.1.2.2)] hC8 2 rfl rfl rfl Tryz.isAgg26 Tryz.sizeOf26 rfl rfl ?_
  obtain ⟨x4, hr4, hr3⟩ := bind_some hr3
  refine WL_call Tryz.call7 rfl rfl (c_Q_eqCursor ((x2.1.1.1, x2.1.1.2), x2.1.2.1, x2.1.2.2) v6 ((hC8.ro 1 rfl).now (Keep.refl _ _)) ((x1.1.1.1, x1.1.1.2), x1.1.2.1, x1.1.2.2) v3 ((hC8.ro 3 rfl).now (Keep.refl _ _)) x4 hr4) ?_
  intro _ w9 hv5
  obtain ⟨rfl, hB6⟩ := res_bool hv5
  have hC10 := hC8.grow hB6
  refine WL_not rfl rfl ?_
  refine WL_move rfl rfl ?_
  refine WL_fork (fun hc2 => ?_) (fun hc2 => ?_)
  ·replace hr3 := ite_t hr3 hc2
   refine WL_guard_skip rfl rfl (by simp) rfl ?_
   refine WL_guard_skip rfl rfl (by simp) rfl ?_
   refine WL_guard_skip rfl rfl (by simp) rfl ?_
   refine WL_pick_t rfl rfl rfl ?_
   refine WL_nil ?_
   have hq2 := Option.some.inj hr3
   subst hq2
   refine nrm_sub (l' := [(0, (sv a1)), (3, (ptr b1 0)), (4, (.bool x1.2)), (5, (ptr b2 0)), (32, (.bool true))]) ⟨rfl, rfl, rfl, rfl, rfl, trivial⟩ ?_
   exact ⟨true, rfl, rfl, (Keep.of hB6).below, hC10⟩
  replace hr3 := ite_f hr3 hc2
  refine WL_guard rfl rfl ?_
  refine WL_move rfl rfl ?_
  refine WL_guard rfl rfl ?_
  refine WL_move rfl rfl ?_
  refine WL_guard rfl rfl ?_
  refine WL_bool_neq Tryz.underlying4 rfl rfl rfl ?_
  refine WL_pick_f rfl rfl rfl ?_
  refine WL_nil ?_
  have hq3 := Option.some.inj hr3
  subst hq3
  refine nrm_sub (l' := [(0, (sv a1)), (3, (ptr b1 0)), (4, (.bool x1.2)), (5, (ptr b2 0)), (32, (.bool (!decide (x2.2 = x1.2))))]) ⟨rfl, rfl, rfl, rfl, rfl, trivial⟩ ?_
  exact ⟨(!decide (x2.2 = x1.2)), rfl, rfl, (Keep.of hB6).below, hC10⟩
 rintro _ w7 ⟨x3, rfl, rfl, hB5, hC9⟩
 try dsimp only at hF
 refine W_cond rfl (fun hc3 => ?_) (fun hc3 => ?_)
 ·replace hF := ite_t hF hc3
  refine W_seq_reg ?_
  refine WL_assign rfl rfl ?_
  refine WL_nil (W_ret (nrm_ret ?_))
  have hq4 := Option.some.inj hF
  subst hq4
  refine fn_ret1 rfl rfl ?_
  exact ⟨_, rfl, bool_res hC9 _⟩
 replace hF := ite_f hF hc3
 refine W_skip (nrm_normal (W_seq_reg ?_))
 refine WL_assign rfl rfl ?_
 refine WL_nil (W_seq_reg ?_)
 refine WL_load_box_agg [(.int .i64 x2.1.1.1), v6, (.int .i64 x2.1.2.1), (.int .i64 x2.1.2.2)] hC9 0 rfl rfl rfl Tryz.isAgg26 Tryz.sizeOf26 rfl rfl ?_
 refine WL_move rfl rfl ?_
 obtain ⟨x5, hr5, hF⟩ := bind_some hF
 have hC11 := hC9.f1
 obtain ⟨Fs1, hH1, hn3, hF1, hO1, hb3⟩ := Ctx.lend2 (As := [Item.box b2 [(.int .i64 x2.1.1.1), v6, (.int .i64 x2.1.2.1), (.int .i64 x2.1.2.2)], Item.box b1 [(.int .i64 x1.1.1.1), v3, (.int .i64 x1.1.2.1), (.int .i64 x1.1.2.2)], Item.own v3 (x1.1.1.2 : (List Int))]) [Item.own v6 (x2.1.1.2 : (List Int))] hC11
 refine WL_call Tryz.call8 rfl rfl (c_Q_markCursor ((x2.1.1.1, x2.1.1.2), x2.1.2.1, x2.1.2.2) v6 1 hH1 hn3 x5 hr5) ?_
 rintro _ w10 ⟨rfl, hq5⟩
 have hC12 : Ctx [] w0 w10 [Item.own v6 (x5.2.1.2 : (List Int)), Item.box b2 [(.int .i64 x2.1.1.1), v6, (.int .i64 x2.1.2.1), (.int .i64 x2.1.2.2)], Item.box b1 [(.int .i64 x1.1.1.1), v3, (.int .i64 x1.1.2.1), (.int .i64 x1.1.2.2)], Item.own v3 (x1.1.1.2 : (List Int))] := hb3 _ _ hq5
 refine WL_assign rfl rfl ?_
 refine WL_nil (W_seq_reg ?_)
 refine WL_assign rfl rfl ?_
 refine WL_nil (W_seq_reg ?_)
 refine WL_load_box_agg [(.int .i64 x2.1.1.1), v6, (.int .i64 x2.1.2.1), (.int .i64 x2.1.2.2)] hC12 1 rfl rfl rfl Tryz.isAgg26 Tryz.sizeOf26 rfl rfl ?_
 refine WL_move rfl rfl ?_
 obtain ⟨x6, hr6, hF⟩ := bind_some hF
 refine WL_call Tryz.call9 rfl rfl (c_Q_heldCursor ((x2.1.1.1, x5.2.1.2), x2.1.2.1, x2.1.2.2) v6 ((hC12.ro 0 rfl).now (Keep.refl _ _)) 1 x6 hr6) ?_
 intro _ w11 hv6
 obtain ⟨rfl, hB7⟩ := res_int hv6
 have hC13 := hC12.grow hB7
 refine WL_assign rfl rfl ?_
 refine WL_nil (W_seq (W_seq_reg ?_))
 refine WL_move rfl rfl ?_
 refine WL_lss rfl rfl rfl ?_
 refine WL_nil ?_
 refine W_cond rfl (fun hc4 => ?_) (fun hc4 => ?_)
 ·replace hF := ite_t hF hc4
  refine W_seq_reg ?_
  refine WL_assign rfl rfl ?_
  refine WL_nil (W_ret (nrm_ret ?_))
  have hq6 := Option.some.inj hF
  subst hq6
  refine fn_ret1 rfl rfl ?_
  exact ⟨_, rfl, bool_res hC13 _⟩
 replace hF := ite_f hF hc4
 refine W_skip (nrm_normal (W_seq (W_seq_reg ?_)))
 refine WL_move rfl rfl ?_
 refine WL_move rfl rfl ?_
 refine WL_neq rfl rfl rfl ?_
 refine WL_nil ?_
 refine W_cond rfl (fun hc5 => ?_) (fun hc5 => ?_)
 ·replace hF := ite_t hF hc5
  refine W_seq_reg ?_
  refine WL_assign rfl rfl ?_
  refine WL_nil (W_ret (nrm_ret ?_))
  have hq7 := Option.some.inj hF
  subst hq7
  refine fn_ret1 rfl rfl ?_
  exact ⟨_, rfl, bool_res hC13 _⟩
 replace hF := ite_f hF hc5
 refine W_skip (nrm_normal (W_seq_reg ?_))
 refine WL_move rfl rfl ?_
 obtain ⟨x7, hr7, hF⟩ := bind_some hF
 refine WL_call Tryz.call6 rfl rfl (c_M_ParseCursor (hT.keep hC13.keep) a1 x7 hr7) ?_
 rintro _ w12 ⟨hB8, v7, v8, F5, F6, rfl, hv7, hv8, hn4, hb4⟩
 obtain ⟨rfl, rfl⟩ := val_bool hv8
 have hC14 := hC13.pushL hB8 (Bs := [Item.own v7 x7.1]) (Fs := [F5]) ⟨F5, _, rfl, hv7, rfl⟩ (by simpa using hn4) (fun b h => hb4 b (by simpa using h))
 obtain ⟨v9, rfl, hC15⟩ := st26_own hC14
 refine WL_move rfl rfl ?_
 refine WL_extract rfl rfl rfl ?_
 refine WL_extract rfl rfl rfl ?_
 refine WL_allocK hC15 zero26 rfl rfl (fun b3 w13 hC16 hB9 hN3 => ?_)
 refine WL_store_box_aggK (cs' := [(.int .i64 x7.1.1.1), v9, (.int .i64 x7.1.2.1), (.int .i64 x7.1.2.2)]) (new := [(.int .i64 x7.1.1.1), v9, (.int .i64 x7.1.2.1), (.int .i64 x7.1.2.2)]) hC16 0 rfl rfl (by intro v hv; simp only [List.mem_cons, List.not_mem_nil, or_false] at hv; rcases hv with rfl | rfl | rfl | rfl; exact rfl; exact (ro_one (hC16.ro 1 rfl)); exact rfl; exact rfl) rfl Tryz.sizeOf26 rfl rfl (fun w14 hC17 hKp3 => ?_)
 try dsimp only [List.set] at hC17
 have hk7 := Keep.over (((Keep.of hB7).then hB8).then hB9) (Nat.le_trans ((Keep.of hB7).then hB8).size hN3) hKp3
 have hk8 := Keep.over ((Keep.of hB8).then hB9) (Nat.le_trans (Keep.of hB8).size hN3) hKp3
 have hk9 := Keep.over (Keep.of hB9) hN3 hKp3
 refine WL_assign rfl rfl ?_
 refine WL_nil (W_seq ?_)
 obtain ⟨r2, hr8, hF⟩ := bind_some hF
 refine W_cut (fun l w => ∃ x8 : Bool, x8 = r2 ∧ l = [(5, (ptr b2 0)), (7, (.int .i64 x5.1)), (57, (.bool x8))] ∧ Below w14.heap.size w14 w ∧ Ctx [] w0 w [Item.own v6 (x5.2.1.2 : (List Int)), Item.box b2 [(.int .i64 x2.1.1.1), v6, (.int .i64 x2.1.2.1), (.int .i64 x2.1.2.2)]]) ?_ ?_
 ·refine W_reg ?_
  refine WL_load_box_agg [(.int .i64 x7.1.1.1), v9, (.int .i64 x7.1.2.1), (.int .i64 x7.1.2.2)] hC17 0 rfl rfl rfl Tryz.isAgg26 Tryz.sizeOf26 rfl rfl ?_
  refine WL_load_box_agg [(.int .i64 x1.1.1.1), v3, (.int .i64 x1.1.2.1), (.int .i64 x1.1.2.2)] hC17 4 rfl rfl rfl Tryz.isAgg26 Tryz.sizeOf26 rfl rfl ?_
  obtain ⟨x9, hr9, hr8⟩ := bind_some hr8
  refine WL_call Tryz.call7 rfl rfl (c_Q_eqCursor ((x7.1.1.1, x7.1.1.2), x7.1.2.1, x7.1.2.2) v9 ((hC17.ro 1 rfl).now (Keep.refl _ _)) ((x1.1.1.1, x1.1.1.2), x1.1.2.1, x1.1.2.2) v3 ((hC17.ro 5 rfl).now (Keep.refl _ _)) x9 hr9) ?_
  intro _ w16 hv9
  obtain ⟨rfl, hB11⟩ := res_bool hv9
  have hC19 := hC17.grow hB11
  refine WL_not rfl rfl ?_
  refine WL_move rfl rfl ?_
  refine WL_fork (fun hc6 => ?_) (fun hc6 => ?_)
  ·replace hr8 := ite_t hr8 hc6
   refine WL_guard_skip rfl rfl (by simp) rfl ?_
   refine WL_guard_skip rfl rfl (by simp) rfl ?_
   refine WL_guard_skip rfl rfl (by simp) rfl ?_
   refine WL_pick_t rfl rfl rfl ?_
   refine WL_nil ?_
   have hq8 := Option.some.inj hr8
   subst hq8
   have hC20 := hC19.f3
   have hC21 := hC20.f3
   have hC22 := hC21.h2
   refine nrm_sub (l' := [(5, (ptr b2 0)), (7, (.int .i64 x5.1)), (57, (.bool true))]) ⟨rfl, rfl, rfl, trivial⟩ ?_
   exact ⟨true, rfl, rfl, (Keep.of hB11).below, hC22⟩
  replace hr8 := ite_f hr8 hc6
  refine WL_guard rfl rfl ?_
  refine WL_move rfl rfl ?_
  refine WL_guard rfl rfl ?_
  refine WL_move rfl rfl ?_
  refine WL_guard rfl rfl ?_
  refine WL_bool_neq Tryz.underlying4 rfl rfl rfl ?_
  refine WL_pick_f rfl rfl rfl ?_
  refine WL_nil ?_
  have hq9 := Option.some.inj hr8
  subst hq9
  have hC23 := hC19.f3
  have hC24 := hC23.f3
  have hC25 := hC24.h2
  refine nrm_sub (l' := [(5, (ptr b2 0)), (7, (.int .i64 x5.1)), (57, (.bool (!decide (x7.2 = x1.2))))]) ⟨rfl, rfl, rfl, trivial⟩ ?_
  exact ⟨(!decide (x7.2 = x1.2)), rfl, rfl, (Keep.of hB11).below, hC25⟩
 rintro _ w15 ⟨x8, rfl, rfl, hB10, hC18⟩
 try dsimp only at hF
 refine W_cond rfl (fun hc7 => ?_) (fun hc7 => ?_)
 ·replace hF := ite_t hF hc7
  refine W_seq_reg ?_
  refine WL_assign rfl rfl ?_
  refine WL_nil (W_ret (nrm_ret ?_))
  have hq10 := Option.some.inj hF
  subst hq10
  refine fn_ret1 rfl rfl ?_
  exact ⟨_, rfl, bool_res hC18 _⟩
 replace hF := ite_f hF hc7
 refine W_skip (nrm_normal (W_seq_reg ?_))
 refine WL_assign rfl rfl ?_
 refine WL_nil (W_seq_reg ?_)
 refine WL_load_box_agg [(.int .i64 x2.1.1.1), v6, (.int .i64 x2.1.2.1), (.int .i64 x2.1.2.2)] hC18 1 rfl rfl rfl Tryz.isAgg26 Tryz.sizeOf26 rfl rfl ?_
 refine WL_move rfl rfl ?_
 obtain ⟨x10, hr10, hF⟩ := bind_some hF
 refine WL_call Tryz.call9 rfl rfl (c_Q_heldCursor ((x2.1.1.1, x5.2.1.2), x2.1.2.1, x2.1.2.2) v6 ((hC18.ro 0 rfl).now (Keep.refl _ _)) 1 x10 hr10) ?_
 intro _ w17 hv10
 obtain ⟨rfl, hB12⟩ := res_int hv10
 have hC26 := hC18.grow hB12
 refine WL_assign rfl rfl ?_
 refine WL_nil (W_seq (W_seq_reg ?_))
 refine WL_move rfl rfl ?_
 refine WL_lss rfl rfl rfl ?_
 refine WL_nil ?_
 refine W_cond rfl (fun hc8 => ?_) (fun hc8 => ?_)
 ·replace hF := ite_t hF hc8
  refine W_seq_reg ?_
  refine WL_assign rfl rfl ?_
  refine WL_nil (W_ret (nrm_ret ?_))
  have hq11 := Option.some.inj hF
  subst hq11
  refine fn_ret1 rfl rfl ?_
  exact ⟨_, rfl, bool_res hC26 _⟩
 replace hF := ite_f hF hc8
 refine W_skip (nrm_normal (W_seq (W_seq_reg ?_)))
 refine WL_move rfl rfl ?_
 refine WL_move rfl rfl ?_
 refine WL_neq rfl rfl rfl ?_
 refine WL_nil ?_
 refine W_cond rfl (fun hc9 => ?_) (fun hc9 => ?_)
 ·replace hF := ite_t hF hc9
  refine W_seq_reg ?_
  refine WL_assign rfl rfl ?_
  refine WL_nil (W_ret (nrm_ret ?_))
  have hq12 := Option.some.inj hF
  subst hq12
  refine fn_ret1 rfl rfl ?_
  exact ⟨_, rfl, bool_res hC26 _⟩
 replace hF := ite_f hF hc9
 refine W_skip (nrm_normal (W_seq_reg ?_))
 refine WL_assign rfl rfl ?_
 refine WL_nil (W_ret ?_)
 have hq13 := Option.some.inj hF
 subst hq13
 refine fn_ret1 rfl rfl ?_
 exact ⟨_, rfl, bool_res hC26 _⟩

end Go.Gx.Px
