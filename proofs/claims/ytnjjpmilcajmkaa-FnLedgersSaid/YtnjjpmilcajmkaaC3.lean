/- The contracts of the Go functions against the pure functions, printed by program. Conditions: each says them. -/
import Derived.Test.YtnjjpmilcajmkaaC2
set_option linter.unusedVariables false
set_option linter.unusedSimpArgs false
set_option maxRecDepth 100000
set_option maxHeartbeats 4000000
namespace Go.Gx.Px
open Go.Proofs Go.RowKit

theorem c_Q_FnLedgers {w0 : World} (a1 : (List UInt8)) (u1 : Value) (g1 : RO [] w0 u1 a1) (rr : Bool) (hF : Q.FnLedgers a1 = some rr) :
 Calls Try.prog 5 [u1].toArray w0 fun e w' => ∃ v, e = .returned v ∧ Res w0 rr v w' := by
 refine calls_of_W Try.func5 rfl rfl ?_
 have hC0 := Ctx.start w0
 unfold Q.FnLedgers at hF
 refine W_seq_reg ?_
 refine WL_assign rfl rfl ?_
 refine WL_nil ?_
 refine W_seq ?_
 refine W_seq_reg ?_
 refine WL_move rfl rfl ?_
 obtain ⟨x1, hr1, hF⟩ := bind_some hF
 refine WL_call Try.call26 rfl rfl (c_Q_big a1 u1 (g1.now hC0.keep) x1 hr1) ?_
 intro _ w1 hv1
 obtain ⟨rfl, hB1⟩ := res_bool hv1
 have hC1 := hC0.grow hB1
 refine WL_nil ?_
 refine W_cond rfl (fun hc1 => ?_) (fun hc1 => ?_)
 ·replace hF := ite_t hF hc1
  refine W_seq_reg ?_
  refine WL_assign rfl rfl ?_
  refine WL_nil ?_
  refine W_ret ?_
  refine nrm_ret ?_
  have hq1 := Option.some.inj hF
  subst hq1
  refine fn_ret1 rfl rfl ?_
  exact ⟨_, rfl, bool_res hC1 _⟩
 replace hF := ite_f hF hc1
 refine W_skip ?_
 refine nrm_normal ?_
 refine W_seq_reg ?_
 refine WL_move rfl rfl ?_
 obtain ⟨x2, hr2, hF⟩ := bind_some hF
 refine WL_call Try.call27 rfl rfl (c_S_DrawReceiveCall a1 u1 (g1.now hC1.keep) x2 hr2) ?_
 rintro _ w2 ⟨hB2, v1, v2, v3, F1, F2, F3, rfl, hv2, hv3, hv4, hn1, hb1⟩
 obtain ⟨rfl, rfl⟩ := val_int hv3
 obtain ⟨rfl, rfl⟩ := val_int hv4
 have hC2 := hC1.pushL hB2 (Bs := [Item.own v1 x2.1]) (Fs := [F1]) ⟨F1, _, rfl, hv2, rfl⟩ (by simpa using hn1) (fun b h => hb1 b (by simpa using h))
 obtain ⟨v4, rfl, hC3⟩ := st26_own hC2
 refine WL_move rfl rfl ?_
 refine WL_extract rfl rfl rfl ?_
 refine WL_extract rfl rfl rfl ?_
 refine WL_extract rfl rfl rfl ?_
 refine WL_alloc hC3 zero26 rfl rfl (fun b1 w3 hC4 hB3 => ?_)
 refine WL_store_box_agg (cs' := [v4, (.int .i64 x2.1.2.1), (.int .i64 x2.1.2.2)]) (new := [v4, (.int .i64 x2.1.2.1), (.int .i64 x2.1.2.2)]) hC4 0 rfl rfl (by intro v hv; simp only [List.mem_cons, List.not_mem_nil, or_false] at hv; rcases hv with rfl | rfl | rfl; exact (ro_one (hC4.ro 1 rfl)); exact rfl; exact rfl) rfl Try.sizeOf26 rfl rfl (fun w4 hC5 => ?_)
 try dsimp only [List.set] at hC5
 refine WL_assign rfl rfl ?_
 refine WL_assign rfl rfl ?_
 refine WL_nil ?_
 refine W_seq_reg ?_
 refine WL_load_box_agg [v4, (.int .i64 x2.1.2.1), (.int .i64 x2.1.2.2)] hC5 0 rfl rfl rfl Try.isAgg26 Try.sizeOf26 rfl rfl ?_
 refine WL_move rfl rfl ?_
 refine WL_move rfl rfl ?_
 obtain ⟨x3, hr3, hF⟩ := bind_some hF
 refine WL_call Try.call18 rfl rfl (c_M_ReceiveCall (x2.1.1, x2.1.2.1, x2.1.2.2) v4 ((hC5.ro 1 rfl).now (Keep.refl _ _)) x2.2.1 x2.2.2 x3 hr3) ?_
 rintro _ w5 ⟨hB4, v5, v6, F4, F5, rfl, hv5, hv6, hn2, hb2⟩
 obtain ⟨rfl, rfl⟩ := val_bool hv6
 have hC6 := hC5.pushL hB4 (Bs := [Item.own v5 x3.1]) (Fs := [F4]) ⟨F4, _, rfl, hv5, rfl⟩ (by simpa using hn2) (fun b h => hb2 b (by simpa using h))
 obtain ⟨v7, rfl, hC7⟩ := st26_own hC6
 refine WL_move rfl rfl ?_
 refine WL_extract rfl rfl rfl ?_
 refine WL_extract rfl rfl rfl ?_
 refine WL_alloc hC7 zero26 rfl rfl (fun b2 w6 hC8 hB5 => ?_)
 refine WL_store_box_agg (cs' := [v7, (.int .i64 x3.1.2.1), (.int .i64 x3.1.2.2)]) (new := [v7, (.int .i64 x3.1.2.1), (.int .i64 x3.1.2.2)]) hC8 0 rfl rfl (by intro v hv; simp only [List.mem_cons, List.not_mem_nil, or_false] at hv; rcases hv with rfl | rfl | rfl; exact (ro_one (hC8.ro 1 rfl)); exact rfl; exact rfl) rfl Try.sizeOf26 rfl rfl (fun w7 hC9 => ?_)
 try dsimp only [List.set] at hC9
 refine WL_assign rfl rfl ?_
 refine WL_nil ?_
 refine W_seq_reg ?_
 refine WL_load_box_agg [v4, (.int .i64 x2.1.2.1), (.int .i64 x2.1.2.2)] hC9 2 rfl rfl rfl Try.isAgg26 Try.sizeOf26 rfl rfl ?_
 refine WL_move rfl rfl ?_
 refine WL_move rfl rfl ?_
 obtain ⟨x4, hr4, hF⟩ := bind_some hF
 refine WL_call Try.call16 rfl rfl (c_S_ReceiveCall (x2.1.1, x2.1.2.1, x2.1.2.2) v4 ((hC9.ro 3 rfl).now (Keep.refl _ _)) x2.2.1 x2.2.2 x4 hr4) ?_
 rintro _ w9 ⟨hB6, v8, v9, F6, F7, rfl, hv7, hv8, hn3, hb3⟩
 obtain ⟨rfl, rfl⟩ := val_bool hv8
 have hC10 := hC9.pushL hB6 (Bs := [Item.own v8 x4.1]) (Fs := [F6]) ⟨F6, _, rfl, hv7, rfl⟩ (by simpa using hn3) (fun b h => hb3 b (by simpa using h))
 obtain ⟨v10, rfl, hC11⟩ := st26_own hC10
 refine WL_move rfl rfl ?_
 refine WL_extract rfl rfl rfl ?_
 refine WL_extract rfl rfl rfl ?_
 refine WL_alloc hC11 zero26 rfl rfl (fun b3 w10 hC12 hB7 => ?_)
 refine WL_store_box_agg (cs' := [v10, (.int .i64 x4.1.2.1), (.int .i64 x4.1.2.2)]) (new := [v10, (.int .i64 x4.1.2.1), (.int .i64 x4.1.2.2)]) hC12 0 rfl rfl (by intro v hv; simp only [List.mem_cons, List.not_mem_nil, or_false] at hv; rcases hv with rfl | rfl | rfl; exact (ro_one (hC12.ro 1 rfl)); exact rfl; exact rfl) rfl Try.sizeOf26 rfl rfl (fun w11 hC13 => ?_)
 try dsimp only [List.set] at hC13
 refine WL_assign rfl rfl ?_
 refine WL_nil ?_
 refine W_seq ?_
 obtain ⟨r1, hr5, hF⟩ := bind_some hF
 refine W_cut (fun l w => ∃ x5 : Bool, x5 = r1 ∧ l = [(0, u1), (3, (ptr b1 0)), (4, (.int .i64 x2.2.1)), (5, (.int .i64 x2.2.2)), (7, (.bool x3.2)), (8, (ptr b3 0)), (68, (.bool x5))] ∧ Below w11.heap.size w11 w ∧ Ctx [] w0 w [Item.box b3 [v10, (.int .i64 x4.1.2.1), (.int .i64 x4.1.2.2)], Item.own v10 (x4.1.1 : (List Int)), Item.box b1 [v4, (.int .i64 x2.1.2.1), (.int .i64 x2.1.2.2)], Item.own v4 (x2.1.1 : (List Int))]) ?_ ?_
 ·refine W_reg ?_
  refine WL_move rfl rfl ?_
  refine WL_move rfl rfl ?_
  refine WL_bool_neq Try.underlying4 rfl rfl rfl ?_
  refine WL_move rfl rfl ?_
  refine WL_fork (fun hc2 => ?_) (fun hc2 => ?_)
  ·replace hr5 := ite_t hr5 hc2
   refine WL_guard_skip rfl rfl (by simp) rfl ?_
   refine WL_guard_skip rfl rfl (by simp) rfl ?_
   refine WL_guard_skip rfl rfl (by simp) rfl ?_
   refine WL_guard_skip rfl rfl (by simp) rfl ?_
   refine WL_guard_skip rfl rfl (by simp) rfl ?_
   refine WL_guard_skip rfl rfl (by simp) rfl ?_
   refine WL_pick_t rfl rfl rfl ?_
   refine WL_move rfl rfl ?_
   refine WL_guard_skip rfl rfl (by simp) rfl ?_
   refine WL_guard_skip rfl rfl (by simp) rfl ?_
   refine WL_guard_skip rfl rfl (by simp) rfl ?_
   refine WL_guard_skip rfl rfl (by simp) rfl ?_
   refine WL_guard_skip rfl rfl (by simp) rfl ?_
   refine WL_pick_t rfl rfl rfl ?_
   refine WL_move rfl rfl ?_
   refine WL_guard_skip rfl rfl (by simp) rfl ?_
   refine WL_guard_skip rfl rfl (by simp) rfl ?_
   refine WL_guard_skip rfl rfl (by simp) rfl ?_
   refine WL_guard_skip rfl rfl (by simp) rfl ?_
   refine WL_guard_skip rfl rfl (by simp) rfl ?_
   refine WL_pick_t rfl rfl rfl ?_
   refine WL_nil ?_
   have hq2 := Option.some.inj hr5
   subst hq2
   have hC15 := hC13.f5
   have hC16 := hC15.f5
   have hC17 := hC16.f3
   have hC18 := hC17.f3
   have hC19 := hC18.h4
   refine nrm_sub (l' := [(0, u1), (3, (ptr b1 0)), (4, (.int .i64 x2.2.1)), (5, (.int .i64 x2.2.2)), (7, (.bool x3.2)), (8, (ptr b3 0)), (68, (.bool true))]) ⟨rfl, rfl, rfl, rfl, rfl, rfl, rfl, trivial⟩ ?_
   exact ⟨true, rfl, rfl, (Below.refl _ _), hC19⟩
  replace hr5 := ite_f hr5 hc2
  refine WL_guard rfl rfl ?_
  refine WL_field Try.underlying26 rfl rfl (fun w => ⟨_, Try.sizeOf22 w⟩) rfl rfl ?_
  refine WL_guard rfl rfl ?_
  refine WL_load_box hC13 2 rfl rfl Try.isAgg22 rfl rfl ?_
  refine WL_guard rfl rfl ?_
  refine WL_field Try.underlying26 rfl rfl (fun w => ⟨_, Try.sizeOf22 w⟩) rfl rfl ?_
  refine WL_guard rfl rfl ?_
  refine WL_load_box hC13 0 rfl rfl Try.isAgg22 rfl rfl ?_
  obtain ⟨x6, hr6, hr5⟩ := bind_some hr5
  refine WL_guard rfl rfl ?_
  refine WL_call Try.call28 rfl rfl (c_Q_sameInts x3.1.1 v7 ((hC13.ro 3 rfl).now (Keep.refl _ _)) x4.1.1 v10 ((hC13.ro 1 rfl).now (Keep.refl _ _)) x6 hr6) ?_
  intro _ w13 hv9
  obtain ⟨rfl, hB9⟩ := res_bool hv9
  have hC20 := hC13.grow hB9
  refine WL_guard rfl rfl ?_
  refine WL_not rfl rfl ?_
  refine WL_pick_f rfl rfl rfl ?_
  refine WL_move rfl rfl ?_
  refine WL_fork (fun hc3 => ?_) (fun hc3 => ?_)
  ·replace hr5 := ite_t hr5 hc3
   refine WL_guard_skip rfl rfl (by simp) rfl ?_
   refine WL_guard_skip rfl rfl (by simp) rfl ?_
   refine WL_guard_skip rfl rfl (by simp) rfl ?_
   refine WL_guard_skip rfl rfl (by simp) rfl ?_
   refine WL_guard_skip rfl rfl (by simp) rfl ?_
   refine WL_pick_t rfl rfl rfl ?_
   refine WL_move rfl rfl ?_
   refine WL_guard_skip rfl rfl (by simp) rfl ?_
   refine WL_guard_skip rfl rfl (by simp) rfl ?_
   refine WL_guard_skip rfl rfl (by simp) rfl ?_
   refine WL_guard_skip rfl rfl (by simp) rfl ?_
   refine WL_guard_skip rfl rfl (by simp) rfl ?_
   refine WL_pick_t rfl rfl rfl ?_
   refine WL_nil ?_
   have hq3 := Option.some.inj hr5
   subst hq3
   have hC21 := hC20.f5
   have hC22 := hC21.f5
   have hC23 := hC22.f3
   have hC24 := hC23.f3
   have hC25 := hC24.h4
   refine nrm_sub (l' := [(0, u1), (3, (ptr b1 0)), (4, (.int .i64 x2.2.1)), (5, (.int .i64 x2.2.2)), (7, (.bool x3.2)), (8, (ptr b3 0)), (68, (.bool true))]) ⟨rfl, rfl, rfl, rfl, rfl, rfl, rfl, trivial⟩ ?_
   exact ⟨true, rfl, rfl, (Keep.of hB9).below, hC25⟩
  replace hr5 := ite_f hr5 hc3
  refine WL_guard rfl rfl ?_
  refine WL_field Try.underlying26 rfl rfl (fun w => ⟨_, Try.sizeOf3 w⟩) rfl rfl ?_
  refine WL_guard rfl rfl ?_
  refine WL_load_box hC20 2 rfl rfl Try.isAgg3 rfl rfl ?_
  refine WL_guard rfl rfl ?_
  refine WL_field Try.underlying26 rfl rfl (fun w => ⟨_, Try.sizeOf3 w⟩) rfl rfl ?_
  refine WL_guard rfl rfl ?_
  refine WL_load_box hC20 0 rfl rfl Try.isAgg3 rfl rfl ?_
  refine WL_guard rfl rfl ?_
  refine WL_neq rfl rfl rfl ?_
  refine WL_pick_f rfl rfl rfl ?_
  refine WL_move rfl rfl ?_
  refine WL_fork (fun hc4 => ?_) (fun hc4 => ?_)
  ·replace hr5 := ite_t hr5 hc4
   refine WL_guard_skip rfl rfl (by simp) rfl ?_
   refine WL_guard_skip rfl rfl (by simp) rfl ?_
   refine WL_guard_skip rfl rfl (by simp) rfl ?_
   refine WL_guard_skip rfl rfl (by simp) rfl ?_
   refine WL_guard_skip rfl rfl (by simp) rfl ?_
   refine WL_pick_t rfl rfl rfl ?_
   refine WL_nil ?_
   have hq4 := Option.some.inj hr5
   subst hq4
   have hC26 := hC20.f5
   have hC27 := hC26.f5
   have hC28 := hC27.f3
   have hC29 := hC28.f3
   have hC30 := hC29.h4
   refine nrm_sub (l' := [(0, u1), (3, (ptr b1 0)), (4, (.int .i64 x2.2.1)), (5, (.int .i64 x2.2.2)), (7, (.bool x3.2)), (8, (ptr b3 0)), (68, (.bool true))]) ⟨rfl, rfl, rfl, rfl, rfl, rfl, rfl, trivial⟩ ?_
   exact ⟨true, rfl, rfl, (Keep.of hB9).below, hC30⟩
  replace hr5 := ite_f hr5 hc4
  refine WL_guard rfl rfl ?_
  refine WL_field Try.underlying26 rfl rfl (fun w => ⟨_, Try.sizeOf3 w⟩) rfl rfl ?_
  refine WL_guard rfl rfl ?_
  refine WL_load_box hC20 2 rfl rfl Try.isAgg3 rfl rfl ?_
  refine WL_guard rfl rfl ?_
  refine WL_field Try.underlying26 rfl rfl (fun w => ⟨_, Try.sizeOf3 w⟩) rfl rfl ?_
  refine WL_guard rfl rfl ?_
  refine WL_load_box hC20 0 rfl rfl Try.isAgg3 rfl rfl ?_
  refine WL_guard rfl rfl ?_
  refine WL_neq rfl rfl rfl ?_
  refine WL_pick_f rfl rfl rfl ?_
  refine WL_nil ?_
  have hq5 := Option.some.inj hr5
  subst hq5
  have hC31 := hC20.f5
  have hC32 := hC31.f5
  have hC33 := hC32.f3
  have hC34 := hC33.f3
  have hC35 := hC34.h4
  refine nrm_sub (l' := [(0, u1), (3, (ptr b1 0)), (4, (.int .i64 x2.2.1)), (5, (.int .i64 x2.2.2)), (7, (.bool x3.2)), (8, (ptr b3 0)), (68, (.bool (!decide (x3.1.2.2 = x4.1.2.2))))]) ⟨rfl, rfl, rfl, rfl, rfl, rfl, rfl, trivial⟩ ?_
  exact ⟨(!decide (x3.1.2.2 = x4.1.2.2)), rfl, rfl, (Keep.of hB9).below, hC35⟩
 rintro _ w12 ⟨x5, rfl, rfl, hB8, hC14⟩
 try dsimp only at hF
 refine W_cond rfl (fun hc5 => ?_) (fun hc5 => ?_)
 ·replace hF := ite_t hF hc5
  refine W_seq_reg ?_
  refine WL_assign rfl rfl ?_
  refine WL_nil ?_
  refine W_ret ?_
  refine nrm_ret ?_
  have hq6 := Option.some.inj hF
  subst hq6
  refine fn_ret1 rfl rfl ?_
  exact ⟨_, rfl, bool_res hC14 _⟩
 replace hF := ite_f hF hc5
 refine W_skip ?_
 refine nrm_normal ?_
 refine W_seq ?_
 refine W_seq_reg ?_
 refine WL_move rfl rfl ?_
 refine WL_nil ?_
 refine W_cond rfl (fun hc6 => ?_) (fun hc6 => ?_)
 ·replace hF := ite_t hF hc6
  refine W_seq_reg ?_
  refine WL_load_box_agg [v10, (.int .i64 x4.1.2.1), (.int .i64 x4.1.2.2)] hC14 0 rfl rfl rfl Try.isAgg26 Try.sizeOf26 rfl rfl ?_
  refine WL_move rfl rfl ?_
  refine WL_move rfl rfl ?_
  obtain ⟨x7, hr7, hF⟩ := bind_some hF
  refine WL_call Try.call18 rfl rfl (c_M_ReceiveCall (x4.1.1, x4.1.2.1, x4.1.2.2) v10 ((hC14.ro 1 rfl).now (Keep.refl _ _)) x2.2.1 x2.2.2 x7 hr7) ?_
  rintro _ w14 ⟨hB10, v11, v12, F8, F9, rfl, hv10, hv11, hn4, hb4⟩
  obtain ⟨rfl, rfl⟩ := val_bool hv11
  have hC36 := hC14.pushL hB10 (Bs := [Item.own v11 x7.1]) (Fs := [F8]) ⟨F8, _, rfl, hv10, rfl⟩ (by simpa using hn4) (fun b h => hb4 b (by simpa using h))
  obtain ⟨v13, rfl, hC37⟩ := st26_own hC36
  refine WL_move rfl rfl ?_
  refine WL_extract rfl rfl rfl ?_
  refine WL_extract rfl rfl rfl ?_
  refine WL_alloc hC37 zero26 rfl rfl (fun b4 w15 hC38 hB11 => ?_)
  refine WL_store_box_agg (cs' := [v13, (.int .i64 x7.1.2.1), (.int .i64 x7.1.2.2)]) (new := [v13, (.int .i64 x7.1.2.1), (.int .i64 x7.1.2.2)]) hC38 0 rfl rfl (by intro v hv; simp only [List.mem_cons, List.not_mem_nil, or_false] at hv; rcases hv with rfl | rfl | rfl; exact (ro_one (hC38.ro 1 rfl)); exact rfl; exact rfl) rfl Try.sizeOf26 rfl rfl (fun w16 hC39 => ?_)
  try dsimp only [List.set] at hC39
  refine WL_assign rfl rfl ?_
  refine WL_nil ?_
  obtain ⟨r2, hr8, hF⟩ := bind_some hF
  refine W_cut (fun l w => ∃ x8 : Bool, x8 = r2 ∧ l = [(0, u1), (113, (.bool x8))] ∧ Below w16.heap.size w16 w ∧ Ctx [] w0 w []) ?_ ?_
  ·refine W_drawn 37 rfl hmix (fun w18 hB13 => ?_)
   have hC41 := hC39.grow hB13
   refine WA_tk 0 (by kernel_rfl) rfl rfl (fl_field Try.underlying26 rfl rfl (fun w => ⟨_, Try.sizeOf3 w⟩) rfl) ?_
   refine WL_field Try.underlying26 rfl rfl (fun w => ⟨_, Try.sizeOf3 w⟩) rfl rfl ?_
   refine WL_nil ?_
   refine WA_tk 2 (by kernel_rfl) rfl rfl (fl_field Try.underlying26 rfl rfl (fun w => ⟨_, Try.sizeOf3 w⟩) rfl) ?_
   refine WL_field Try.underlying26 rfl rfl (fun w => ⟨_, Try.sizeOf3 w⟩) rfl rfl ?_
   refine WL_nil ?_
   refine WA_tk 4 (by kernel_rfl) rfl rfl (fl_move rfl) ?_
   refine WL_move rfl rfl ?_
   refine WL_nil ?_
   refine WA_tk 5 (by kernel_rfl) rfl rfl (fl_field Try.underlying26 rfl rfl (fun w => ⟨_, Try.sizeOf22 w⟩) rfl) ?_
   refine WL_field Try.underlying26 rfl rfl (fun w => ⟨_, Try.sizeOf22 w⟩) rfl rfl ?_
   refine WL_nil ?_
   refine WA_tk 7 (by kernel_rfl) rfl rfl (fl_move rfl) ?_
   refine WL_move rfl rfl ?_
   refine WL_nil ?_
   obtain ⟨x9, hr9, hr8⟩ := bind_some hr8
   obtain ⟨x10, hr10, hr8⟩ := bind_some hr8
   refine WA.sub (l' := [(0, u1), (3, (ptr b1 0)), (4, (.int .i64 x2.2.1)), (5, (.int .i64 x2.2.2)), (7, (.bool x3.2)), (8, (ptr b3 0)), (10, (ptr b4 0)), (11, (.bool x7.2)), (68, (.bool x5)), (69, (.bool x3.2)), (70, (.tuple #[(.agg #[v13, (.int .i64 x7.1.2.1), (.int .i64 x7.1.2.2)]), (.bool x7.2)])), (71, (.agg #[v10, (.int .i64 x4.1.2.1), (.int .i64 x4.1.2.2)])), (72, (.int .i64 x2.2.1)), (73, (.int .i64 x2.2.2)), (74, (.tuple #[(.agg #[v13, (.int .i64 x7.1.2.1), (.int .i64 x7.1.2.2)]), (.bool x7.2)])), (75, (.agg #[v13, (.int .i64 x7.1.2.1), (.int .i64 x7.1.2.2)])), (76, (.bool x7.2)), (77, (ptr b3 1)), (79, (ptr b1 1)), (81, (.int .i64 x2.2.2)), (82, (ptr b1 0)), (84, (.int .i64 x2.2.1))]) ?_ ⟨rfl, rfl, rfl, rfl, rfl, rfl, rfl, rfl, rfl, rfl, rfl, rfl, rfl, rfl, rfl, rfl, rfl, rfl, rfl, rfl, rfl, rfl, trivial⟩
   refine WA_postsE [⟨1, [], fun vs => PW.val (.int .i64 x4.1.2.1), []⟩, ⟨3, [], fun vs => PW.val (.int .i64 x2.1.2.1), []⟩, ⟨6, [], fun vs => PW.val v4, []⟩, ⟨8, [], fun vs => PW.val (.bool x9), []⟩, ⟨9, [], fun vs => PW.val (.bool (!x9)), []⟩, ⟨10, [], fun vs => PW.val (.int .i64 x10), []⟩, ⟨11, [], fun vs => PW.val (.int .i64 (w64 (x2.2.2 * x10))), []⟩, ⟨12, [], fun vs => PW.val (.int .i64 (w64 (x2.1.2.1 + (w64 (x2.2.2 * x10))))), []⟩] [[], [], [], [6], [8], [9], [10], [3, 11]] 24 rfl (by kernel_rfl) (by kernel_rfl) rfl ?_ ?_
   ·refine StepsE_cons rfl ?_ ?_
    ·intro w21 hB16
     refine DepsE_nil ?_
     refine ⟨_, rfl, ?_⟩
     refine WL_load_box (hC41.grow hB16) 2 rfl rfl Try.isAgg3 rfl rfl ?_
     refine WL_nil ?_
     exact FinE_val (Below.refl _ _) rfl rfl ⟨rfl, rfl⟩
    refine StepsE_cons rfl ?_ ?_
    ·intro w21 hB16
     refine DepsE_nil ?_
     refine ⟨_, rfl, ?_⟩
     refine WL_load_box (hC41.grow hB16) 4 rfl rfl Try.isAgg3 rfl rfl ?_
     refine WL_nil ?_
     exact FinE_val (Below.refl _ _) rfl rfl ⟨rfl, rfl⟩
    refine StepsE_cons rfl ?_ ?_
    ·intro w21 hB16
     refine DepsE_nil ?_
     refine ⟨_, rfl, ?_⟩
     refine WL_load_box (hC41.grow hB16) 4 rfl rfl Try.isAgg22 rfl rfl ?_
     refine WL_nil ?_
     exact FinE_val (Below.refl _ _) rfl rfl ⟨rfl, rfl⟩
    refine StepsE_cons rfl ?_ ?_
    ·intro w21 hB16
     refine DepsE_cons rfl rfl rfl ?_
     rintro _ _ ⟨rfl, rfl⟩ _
     refine DepsE_nil ?_
     refine ⟨_, rfl, ?_⟩
     refine WL_call Try.call30 rfl rfl (c_Q_has x2.1.1 v4 ((hC41.grow hB16).ro 5 rfl) x2.2.1 x9 hr9) ?_
     intro _ w19 hv12
     obtain ⟨rfl, hB14⟩ := res_bool hv12
     refine WL_nil ?_
     exact FinE_val hB14 rfl rfl ⟨rfl, rfl⟩
    refine StepsE_cons rfl ?_ ?_
    ·intro w21 hB16
     refine DepsE_cons rfl rfl rfl ?_
     rintro _ _ ⟨rfl, rfl⟩ _
     refine DepsE_nil ?_
     refine ⟨_, rfl, ?_⟩
     refine WL_not rfl rfl ?_
     refine WL_nil ?_
     exact FinE_val (Below.refl _ _) rfl rfl ⟨rfl, rfl⟩
    refine StepsE_cons rfl ?_ ?_
    ·intro w21 hB16
     refine DepsE_cons rfl rfl rfl ?_
     rintro _ _ ⟨rfl, rfl⟩ _
     refine DepsE_nil ?_
     refine ⟨_, rfl, ?_⟩
     refine WL_call Try.call29 rfl rfl (c_Q_btoi (!x9) x10 hr10) ?_
     intro _ w20 hv13
     obtain ⟨rfl, hB15⟩ := res_int hv13
     refine WL_nil ?_
     exact FinE_val hB15 rfl rfl ⟨rfl, rfl⟩
    refine StepsE_cons rfl ?_ ?_
    ·intro w21 hB16
     refine DepsE_cons rfl rfl rfl ?_
     rintro _ _ ⟨rfl, rfl⟩ _
     refine DepsE_nil ?_
     refine ⟨_, rfl, ?_⟩
     refine WL_mul rfl rfl rfl ?_
     refine WL_nil ?_
     exact FinE_val (Below.refl _ _) rfl rfl ⟨rfl, rfl⟩
    refine StepsE_cons rfl ?_ ?_
    ·intro w21 hB16
     refine DepsE_cons rfl rfl rfl ?_
     rintro _ _ ⟨rfl, rfl⟩ _
     refine DepsE_cons rfl rfl rfl ?_
     rintro _ _ ⟨rfl, rfl⟩ _
     refine DepsE_nil ?_
     refine ⟨_, rfl, ?_⟩
     refine WL_add rfl rfl rfl ?_
     refine WL_nil ?_
     exact FinE_val (Below.refl _ _) rfl rfl ⟨rfl, rfl⟩
    exact StepsE_nil
   intro w22 hB17
   refine AllE_cons rfl rfl rfl ?_
   rintro _ _ ⟨rfl, rfl⟩
   refine AllE_cons rfl rfl rfl ?_
   rintro _ _ ⟨rfl, rfl⟩
   refine AllE_cons rfl rfl rfl ?_
   rintro _ _ ⟨rfl, rfl⟩
   refine AllE_cons rfl rfl rfl ?_
   rintro _ _ ⟨rfl, rfl⟩
   refine AllE_cons rfl rfl rfl ?_
   rintro _ _ ⟨rfl, rfl⟩
   refine AllE_cons rfl rfl rfl ?_
   rintro _ _ ⟨rfl, rfl⟩
   refine AllE_cons rfl rfl rfl ?_
   rintro _ _ ⟨rfl, rfl⟩
   refine AllE_cons rfl rfl rfl ?_
   rintro _ _ ⟨rfl, rfl⟩
   refine AllE_nil ?_
   intro hn5 hb5
   have hC42 := hC41.grow hB17
   refine WA_tk 13 (by kernel_rfl) rfl rfl (fl_neq rfl rfl) ?_
   refine WL_neq rfl rfl rfl ?_
   refine WL_nil ?_
   refine WA_tk 14 (by kernel_rfl) rfl rfl (fl_move rfl) ?_
   refine WL_move rfl rfl ?_
   refine WL_nil ?_
   refine WA_fork (fun hc7 => ?_) (fun hc7 => ?_)
   ·replace hr8 := ite_t hr8 hc7
    refine WA_sk 15 (by kernel_rfl) rfl rfl rfl rfl (by simp) rfl rfl ?_
    refine WA_sk 16 (by kernel_rfl) rfl rfl rfl rfl (by simp) rfl rfl ?_
    refine WA_sk 17 (by kernel_rfl) rfl rfl rfl rfl (by simp [undef]) rfl rfl ?_
    refine WA_sk 18 (by kernel_rfl) rfl rfl rfl rfl (by simp [undef]) rfl rfl ?_
    refine WA_sk 19 (by kernel_rfl) rfl rfl rfl rfl (by simp [undef]) rfl rfl ?_
    refine WA_sk 20 (by kernel_rfl) rfl rfl rfl rfl (by simp [undef]) rfl rfl ?_
    refine WA_sk 21 (by kernel_rfl) rfl rfl rfl rfl (by simp [undef]) rfl rfl ?_
    refine WA_sk 22 (by kernel_rfl) rfl rfl rfl rfl (by simp [undef]) rfl rfl ?_
    refine WA_sk 23 (by kernel_rfl) rfl rfl rfl rfl (by simp [undef]) rfl rfl ?_
    refine WA_sk 24 (by kernel_rfl) rfl rfl rfl rfl (by simp [undef]) rfl rfl ?_
    refine WA_sk 25 (by kernel_rfl) rfl rfl rfl rfl (by simp [undef]) rfl rfl ?_
    refine WA_sk 26 (by kernel_rfl) rfl rfl rfl rfl (by simp [undef]) rfl rfl ?_
    refine WA_sk 27 (by kernel_rfl) rfl rfl rfl rfl (by simp [undef]) rfl rfl ?_
    refine WA_sk 28 (by kernel_rfl) rfl rfl rfl rfl (by simp [undef]) rfl rfl ?_
    refine WA_sk 29 (by kernel_rfl) rfl rfl rfl rfl (by simp [undef]) rfl rfl ?_
    refine WA_sk 30 (by kernel_rfl) rfl rfl rfl rfl (by simp) rfl rfl ?_
    refine WA_tk 31 (by kernel_rfl) rfl rfl (fl_pick_t rfl rfl) ?_
    refine WL_pick_t rfl rfl rfl ?_
    refine WL_nil ?_
    refine WA_tk 32 (by kernel_rfl) rfl rfl (fl_move rfl) ?_
    refine WL_move rfl rfl ?_
    refine WL_nil ?_
    refine WA_sk 33 (by kernel_rfl) rfl rfl rfl rfl (by simp) rfl rfl ?_
    refine WA_sk 34 (by kernel_rfl) rfl rfl rfl rfl (by simp) rfl rfl ?_
    refine WA_sk 35 (by kernel_rfl) rfl rfl rfl rfl (by simp) rfl rfl ?_
    refine WA_tk 36 (by kernel_rfl) rfl rfl (fl_pick_t rfl rfl) ?_
    refine WL_pick_t rfl rfl rfl ?_
    refine WL_nil ?_
    refine WA_done (by kernel_rfl) ?_
    have hq7 := Option.some.inj hr8
    subst hq7
    have hC43 := hC42.h0
    refine nrm_sub (l' := [(0, u1), (113, (.bool true))]) ⟨rfl, rfl, trivial⟩ ?_
    exact ⟨true, rfl, rfl, ((Keep.of hB13).then hB17).below, hC43⟩
   replace hr8 := ite_f hr8 hc7
   refine WA_takeG 15 rfl (by kernel_rfl) (by kernel_rfl) (by kernel_rfl) rfl rfl rfl (fl_move rfl) ?_
   refine WL_guard rfl rfl ?_
   refine WL_move rfl rfl ?_
   refine WL_nil ?_
   refine WA_takeG 16 rfl (by kernel_rfl) (by kernel_rfl) (by kernel_rfl) rfl rfl rfl (fl_move rfl) ?_
   refine WL_guard rfl rfl ?_
   refine WL_move rfl rfl ?_
   refine WL_nil ?_
   refine WA_fork (fun hc8 => ?_) (fun hc8 => ?_)
   ·replace hr8 := ite_t hr8 hc8
    refine WA_takeG 17 rfl (by kernel_rfl) (by kernel_rfl) (by kernel_rfl) rfl rfl rfl (fl_field Try.underlying26 rfl rfl (fun w => ⟨_, Try.sizeOf3 w⟩) rfl) ?_
    refine WL_guard rfl rfl ?_
    refine WL_field Try.underlying26 rfl rfl (fun w => ⟨_, Try.sizeOf3 w⟩) rfl rfl ?_
    refine WL_nil ?_
    refine WA_takeG 19 rfl (by kernel_rfl) (by kernel_rfl) (by kernel_rfl) rfl rfl rfl (fl_field Try.underlying26 rfl rfl (fun w => ⟨_, Try.sizeOf3 w⟩) rfl) ?_
    refine WL_guard rfl rfl ?_
    refine WL_field Try.underlying26 rfl rfl (fun w => ⟨_, Try.sizeOf3 w⟩) rfl rfl ?_
    refine WL_nil ?_
    refine WA.sub (l' := [(0, u1), (3, (ptr b1 0)), (4, (.int .i64 x2.2.1)), (5, (.int .i64 x2.2.2)), (7, (.bool x3.2)), (8, (ptr b3 0)), (10, (ptr b4 0)), (11, (.bool x7.2)), (68, (.bool x5)), (69, (.bool x3.2)), (70, (.tuple #[(.agg #[v13, (.int .i64 x7.1.2.1), (.int .i64 x7.1.2.2)]), (.bool x7.2)])), (71, (.agg #[v10, (.int .i64 x4.1.2.1), (.int .i64 x4.1.2.2)])), (72, (.int .i64 x2.2.1)), (73, (.int .i64 x2.2.2)), (74, (.tuple #[(.agg #[v13, (.int .i64 x7.1.2.1), (.int .i64 x7.1.2.2)]), (.bool x7.2)])), (75, (.agg #[v13, (.int .i64 x7.1.2.1), (.int .i64 x7.1.2.2)])), (76, (.bool x7.2)), (77, (ptr b3 1)), (78, (.int .i64 x4.1.2.1)), (79, (ptr b1 1)), (80, (.int .i64 x2.1.2.1)), (81, (.int .i64 x2.2.2)), (82, (ptr b1 0)), (83, v4), (84, (.int .i64 x2.2.1)), (85, (.bool x9)), (86, (.bool (!x9))), (87, (.int .i64 x10)), (88, (.int .i64 (w64 (x2.2.2 * x10)))), (89, (.int .i64 (w64 (x2.1.2.1 + (w64 (x2.2.2 * x10)))))), (90, (.bool (!decide (x4.1.2.1 = (w64 (x2.1.2.1 + (w64 (x2.2.2 * x10)))))))), (91, (.bool false)), (92, (.bool x7.2)), (93, (.bool true)), (94, (ptr b4 1)), (96, (ptr b3 1))]) ?_ ⟨rfl, rfl, rfl, rfl, rfl, rfl, rfl, rfl, rfl, rfl, rfl, rfl, rfl, rfl, rfl, rfl, rfl, rfl, rfl, rfl, rfl, rfl, rfl, rfl, rfl, rfl, rfl, rfl, rfl, rfl, rfl, rfl, rfl, rfl, rfl, rfl, trivial⟩
    refine WA_postsE [⟨18, [], fun vs => PW.val (.int .i64 x7.1.2.1), []⟩, ⟨20, [], fun vs => PW.val (.int .i64 x4.1.2.1), []⟩] [[], []] 16 rfl (by kernel_rfl) (by kernel_rfl) rfl ?_ ?_
    ·refine StepsE_cons rfl ?_ ?_
     ·intro w23 hB18
      refine DepsE_nil ?_
      refine ⟨_, rfl, ?_⟩
      refine WL_guard rfl rfl ?_
      refine WL_load_box (hC42.grow hB18) 0 rfl rfl Try.isAgg3 rfl rfl ?_
      refine WL_nil ?_
      exact FinE_val (Below.refl _ _) rfl rfl ⟨rfl, rfl⟩
     refine StepsE_cons rfl ?_ ?_
     ·intro w23 hB18
      refine DepsE_nil ?_
      refine ⟨_, rfl, ?_⟩
      refine WL_guard rfl rfl ?_
      refine WL_load_box (hC42.grow hB18) 2 rfl rfl Try.isAgg3 rfl rfl ?_
      refine WL_nil ?_
      exact FinE_val (Below.refl _ _) rfl rfl ⟨rfl, rfl⟩
     exact StepsE_nil
    intro w24 hB19
    refine AllE_cons rfl rfl rfl ?_
    rintro _ _ ⟨rfl, rfl⟩
    refine AllE_cons rfl rfl rfl ?_
    rintro _ _ ⟨rfl, rfl⟩
    refine AllE_nil ?_
    intro hn6 hb6
    have hC44 := hC42.grow hB19
    refine WA_takeG 21 rfl (by kernel_rfl) (by kernel_rfl) (by kernel_rfl) rfl rfl rfl (fl_neq rfl rfl) ?_
    refine WL_guard rfl rfl ?_
    refine WL_neq rfl rfl rfl ?_
    refine WL_nil ?_
    refine WA_takeG 22 rfl (by kernel_rfl) (by kernel_rfl) (by kernel_rfl) rfl rfl rfl (fl_move rfl) ?_
    refine WL_guard rfl rfl ?_
    refine WL_move rfl rfl ?_
    refine WL_nil ?_
    refine WA_fork (fun hc9 => ?_) (fun hc9 => ?_)
    ·replace hr8 := ite_t hr8 hc9
     refine WA_sk 23 (by kernel_rfl) rfl rfl rfl rfl (by simp) rfl rfl ?_
     refine WA_sk 24 (by kernel_rfl) rfl rfl rfl rfl (by simp) rfl rfl ?_
     refine WA_sk 25 (by kernel_rfl) rfl rfl rfl rfl (by simp) rfl rfl ?_
     refine WA_sk 26 (by kernel_rfl) rfl rfl rfl rfl (by simp) rfl rfl ?_
     refine WA_sk 27 (by kernel_rfl) rfl rfl rfl rfl (by simp) rfl rfl ?_
     refine WA_sk 28 (by kernel_rfl) rfl rfl rfl rfl (by simp) rfl rfl ?_
     refine WA_takeG 29 rfl (by kernel_rfl) (by kernel_rfl) (by kernel_rfl) rfl rfl rfl (fl_pick_t rfl rfl) ?_
     refine WL_guard rfl rfl ?_
     refine WL_pick_t rfl rfl rfl ?_
     refine WL_nil ?_
     refine WA_takeG 30 rfl (by kernel_rfl) (by kernel_rfl) (by kernel_rfl) rfl rfl rfl (fl_pick_t rfl rfl) ?_
     refine WL_guard rfl rfl ?_
     refine WL_pick_t rfl rfl rfl ?_
     refine WL_nil ?_
     refine WA_tk 31 (by kernel_rfl) rfl rfl (fl_pick_f rfl rfl) ?_
     refine WL_pick_f rfl rfl rfl ?_
     refine WL_nil ?_
     refine WA_tk 32 (by kernel_rfl) rfl rfl (fl_move rfl) ?_
     refine WL_move rfl rfl ?_
     refine WL_nil ?_
     refine WA_sk 33 (by kernel_rfl) rfl rfl rfl rfl (by simp) rfl rfl ?_
     refine WA_sk 34 (by kernel_rfl) rfl rfl rfl rfl (by simp) rfl rfl ?_
     refine WA_sk 35 (by kernel_rfl) rfl rfl rfl rfl (by simp) rfl rfl ?_
     refine WA_tk 36 (by kernel_rfl) rfl rfl (fl_pick_t rfl rfl) ?_
     refine WL_pick_t rfl rfl rfl ?_
     refine WL_nil ?_
     refine WA_done (by kernel_rfl) ?_
     have hq8 := Option.some.inj hr8
     subst hq8
     have hC45 := hC44.h0
     refine nrm_sub (l' := [(0, u1), (113, (.bool true))]) ⟨rfl, rfl, trivial⟩ ?_
     exact ⟨true, rfl, rfl, (((Keep.of hB13).then hB17).then hB19).below, hC45⟩
    replace hr8 := ite_f hr8 hc9
    refine WA_takeG 23 rfl (by kernel_rfl) (by kernel_rfl) (by kernel_rfl) rfl rfl rfl (fl_field Try.underlying26 rfl rfl (fun w => ⟨_, Try.sizeOf22 w⟩) rfl) ?_
    refine WL_guard rfl rfl ?_
    refine WL_field Try.underlying26 rfl rfl (fun w => ⟨_, Try.sizeOf22 w⟩) rfl rfl ?_
    refine WL_nil ?_
    refine WA_takeG 25 rfl (by kernel_rfl) (by kernel_rfl) (by kernel_rfl) rfl rfl rfl (fl_field Try.underlying26 rfl rfl (fun w => ⟨_, Try.sizeOf22 w⟩) rfl) ?_
    refine WL_guard rfl rfl ?_
    refine WL_field Try.underlying26 rfl rfl (fun w => ⟨_, Try.sizeOf22 w⟩) rfl rfl ?_
    refine WL_nil ?_
    refine WA.sub (l' := [(0, u1), (3, (ptr b1 0)), (4, (.int .i64 x2.2.1)), (5, (.int .i64 x2.2.2)), (7, (.bool x3.2)), (8, (ptr b3 0)), (10, (ptr b4 0)), (11, (.bool x7.2)), (68, (.bool x5)), (69, (.bool x3.2)), (70, (.tuple #[(.agg #[v13, (.int .i64 x7.1.2.1), (.int .i64 x7.1.2.2)]), (.bool x7.2)])), (71, (.agg #[v10, (.int .i64 x4.1.2.1), (.int .i64 x4.1.2.2)])), (72, (.int .i64 x2.2.1)), (73, (.int .i64 x2.2.2)), (74, (.tuple #[(.agg #[v13, (.int .i64 x7.1.2.1), (.int .i64 x7.1.2.2)]), (.bool x7.2)])), (75, (.agg #[v13, (.int .i64 x7.1.2.1), (.int .i64 x7.1.2.2)])), (76, (.bool x7.2)), (77, (ptr b3 1)), (78, (.int .i64 x4.1.2.1)), (79, (ptr b1 1)), (80, (.int .i64 x2.1.2.1)), (81, (.int .i64 x2.2.2)), (82, (ptr b1 0)), (83, v4), (84, (.int .i64 x2.2.1)), (85, (.bool x9)), (86, (.bool (!x9))), (87, (.int .i64 x10)), (88, (.int .i64 (w64 (x2.2.2 * x10)))), (89, (.int .i64 (w64 (x2.1.2.1 + (w64 (x2.2.2 * x10)))))), (90, (.bool (!decide (x4.1.2.1 = (w64 (x2.1.2.1 + (w64 (x2.2.2 * x10)))))))), (91, (.bool false)), (92, (.bool x7.2)), (93, (.bool true)), (94, (ptr b4 1)), (95, (.int .i64 x7.1.2.1)), (96, (ptr b3 1)), (97, (.int .i64 x4.1.2.1)), (98, (.bool (!decide (x7.1.2.1 = x4.1.2.1)))), (99, (.bool false)), (100, (ptr b4 0)), (102, (ptr b3 0))]) ?_ ⟨rfl, rfl, rfl, rfl, rfl, rfl, rfl, rfl, rfl, rfl, rfl, rfl, rfl, rfl, rfl, rfl, rfl, rfl, rfl, rfl, rfl, rfl, rfl, rfl, rfl, rfl, rfl, rfl, rfl, rfl, rfl, rfl, rfl, rfl, rfl, rfl, rfl, rfl, rfl, rfl, rfl, rfl, trivial⟩
    refine WA_postsE [⟨24, [], fun vs => PW.val v13, []⟩, ⟨26, [], fun vs => PW.val v10, []⟩] [[], []] 10 rfl (by kernel_rfl) (by kernel_rfl) rfl ?_ ?_
    ·refine StepsE_cons rfl ?_ ?_
     ·intro w25 hB20
      refine DepsE_nil ?_
      refine ⟨_, rfl, ?_⟩
      refine WL_guard rfl rfl ?_
      refine WL_load_box (hC44.grow hB20) 0 rfl rfl Try.isAgg22 rfl rfl ?_
      refine WL_nil ?_
      exact FinE_val (Below.refl _ _) rfl rfl ⟨rfl, rfl⟩
     refine StepsE_cons rfl ?_ ?_
     ·intro w25 hB20
      refine DepsE_nil ?_
      refine ⟨_, rfl, ?_⟩
      refine WL_guard rfl rfl ?_
      refine WL_load_box (hC44.grow hB20) 2 rfl rfl Try.isAgg22 rfl rfl ?_
      refine WL_nil ?_
      exact FinE_val (Below.refl _ _) rfl rfl ⟨rfl, rfl⟩
     exact StepsE_nil
    intro w26 hB21
    refine AllE_cons rfl rfl rfl ?_
    rintro _ _ ⟨rfl, rfl⟩
    refine AllE_cons rfl rfl rfl ?_
    rintro _ _ ⟨rfl, rfl⟩
    refine AllE_nil ?_
    intro hn7 hb7
    have hC46 := hC44.grow hB21
    obtain ⟨x11, hr11, hr8⟩ := bind_some hr8
    refine WA_one 27 (by kernel_rfl) rfl ?_
    refine WL_guard rfl rfl ?_
    refine WL_call Try.call28 rfl rfl (c_Q_sameInts x7.1.1 v13 ((hC46.ro 1 rfl).now (Keep.refl _ _)) x4.1.1 v10 ((hC46.ro 3 rfl).now (Keep.refl _ _)) x11 hr11) ?_
    intro _ w27 hv14
    obtain ⟨rfl, hB22⟩ := res_bool hv14
    have hC47 := hC46.grow hB22
    refine WL_nil ?_
    refine WA_takeG 28 rfl (by kernel_rfl) (by kernel_rfl) (by kernel_rfl) rfl rfl rfl (fl_not rfl) ?_
    refine WL_guard rfl rfl ?_
    refine WL_not rfl rfl ?_
    refine WL_nil ?_
    refine WA_takeG 29 rfl (by kernel_rfl) (by kernel_rfl) (by kernel_rfl) rfl rfl rfl (fl_pick_f rfl rfl) ?_
    refine WL_guard rfl rfl ?_
    refine WL_pick_f rfl rfl rfl ?_
    refine WL_nil ?_
    refine WA_takeG 30 rfl (by kernel_rfl) (by kernel_rfl) (by kernel_rfl) rfl rfl rfl (fl_pick_t rfl rfl) ?_
    refine WL_guard rfl rfl ?_
    refine WL_pick_t rfl rfl rfl ?_
    refine WL_nil ?_
    refine WA_tk 31 (by kernel_rfl) rfl rfl (fl_pick_f rfl rfl) ?_
    refine WL_pick_f rfl rfl rfl ?_
    refine WL_nil ?_
    refine WA_tk 32 (by kernel_rfl) rfl rfl (fl_move rfl) ?_
    refine WL_move rfl rfl ?_
    refine WL_nil ?_
    refine WA_fork (fun hc10 => ?_) (fun hc10 => ?_)
    ·replace hr8 := ite_t hr8 hc10
     refine WA_sk 33 (by kernel_rfl) rfl rfl rfl rfl (by simp) rfl rfl ?_
     refine WA_sk 34 (by kernel_rfl) rfl rfl rfl rfl (by simp) rfl rfl ?_
     refine WA_sk 35 (by kernel_rfl) rfl rfl rfl rfl (by simp) rfl rfl ?_
     refine WA_tk 36 (by kernel_rfl) rfl rfl (fl_pick_t rfl rfl) ?_
     refine WL_pick_t rfl rfl rfl ?_
     refine WL_nil ?_
     refine WA_done (by kernel_rfl) ?_
     have hq9 := Option.some.inj hr8
     subst hq9
     have hC48 := hC47.h0
     refine nrm_sub (l' := [(0, u1), (113, (.bool true))]) ⟨rfl, rfl, trivial⟩ ?_
     exact ⟨true, rfl, rfl, (((((Keep.of hB13).then hB17).then hB19).then hB21).then hB22).below, hC48⟩
    replace hr8 := ite_f hr8 hc10
    refine WA_one 33 (by kernel_rfl) rfl ?_
    refine WL_guard rfl rfl ?_
    refine WL_load_box_agg [v10, (.int .i64 x4.1.2.1), (.int .i64 x4.1.2.2)] hC47 2 rfl rfl rfl Try.isAgg26 Try.sizeOf26 rfl rfl ?_
    refine WL_nil ?_
    obtain ⟨x12, hr12, hr8⟩ := bind_some hr8
    refine WA_one 34 (by kernel_rfl) rfl ?_
    refine WL_guard rfl rfl ?_
    refine WL_call Try.call31 rfl rfl (c_M_IsLedger (x4.1.1, x4.1.2.1, x4.1.2.2) v10 ((hC47.ro 3 rfl).now (Keep.refl _ _)) x12 hr12) ?_
    intro _ w28 hv15
    obtain ⟨rfl, hB23⟩ := res_bool hv15
    have hC49 := hC47.grow hB23
    refine WL_nil ?_
    refine WA_takeG 35 rfl (by kernel_rfl) (by kernel_rfl) (by kernel_rfl) rfl rfl rfl (fl_not rfl) ?_
    refine WL_guard rfl rfl ?_
    refine WL_not rfl rfl ?_
    refine WL_nil ?_
    refine WA_tk 36 (by kernel_rfl) rfl rfl (fl_pick_f rfl rfl) ?_
    refine WL_pick_f rfl rfl rfl ?_
    refine WL_nil ?_
    refine WA_done (by kernel_rfl) ?_
    have hq10 := Option.some.inj hr8
    subst hq10
    have hC50 := hC49.h0
    refine nrm_sub (l' := [(0, u1), (113, (.bool (!x12)))]) ⟨rfl, rfl, trivial⟩ ?_
    exact ⟨(!x12), rfl, rfl, ((((((Keep.of hB13).then hB17).then hB19).then hB21).then hB22).then hB23).below, hC50⟩
   replace hr8 := ite_f hr8 hc8
   refine WA_sk 17 (by kernel_rfl) rfl rfl rfl rfl (by simp) rfl rfl ?_
   refine WA_sk 18 (by kernel_rfl) rfl rfl rfl rfl (by simp) rfl rfl ?_
   refine WA_sk 19 (by kernel_rfl) rfl rfl rfl rfl (by simp) rfl rfl ?_
   refine WA_sk 20 (by kernel_rfl) rfl rfl rfl rfl (by simp) rfl rfl ?_
   refine WA_sk 21 (by kernel_rfl) rfl rfl rfl rfl (by simp) rfl rfl ?_
   refine WA_sk 22 (by kernel_rfl) rfl rfl rfl rfl (by simp) rfl rfl ?_
   refine WA_sk 23 (by kernel_rfl) rfl rfl rfl rfl (by simp [undef]) rfl rfl ?_
   refine WA_sk 24 (by kernel_rfl) rfl rfl rfl rfl (by simp [undef]) rfl rfl ?_
   refine WA_sk 25 (by kernel_rfl) rfl rfl rfl rfl (by simp [undef]) rfl rfl ?_
   refine WA_sk 26 (by kernel_rfl) rfl rfl rfl rfl (by simp [undef]) rfl rfl ?_
   refine WA_sk 27 (by kernel_rfl) rfl rfl rfl rfl (by simp [undef]) rfl rfl ?_
   refine WA_sk 28 (by kernel_rfl) rfl rfl rfl rfl (by simp [undef]) rfl rfl ?_
   refine WA_sk 29 (by kernel_rfl) rfl rfl rfl rfl (by simp) rfl rfl ?_
   refine WA_takeG 30 rfl (by kernel_rfl) (by kernel_rfl) (by kernel_rfl) rfl rfl rfl (fl_pick_f rfl rfl) ?_
   refine WL_guard rfl rfl ?_
   refine WL_pick_f rfl rfl rfl ?_
   refine WL_nil ?_
   refine WA_tk 31 (by kernel_rfl) rfl rfl (fl_pick_f rfl rfl) ?_
   refine WL_pick_f rfl rfl rfl ?_
   refine WL_nil ?_
   refine WA_tk 32 (by kernel_rfl) rfl rfl (fl_move rfl) ?_
   refine WL_move rfl rfl ?_
   refine WL_nil ?_
   refine WA_one 33 (by kernel_rfl) rfl ?_
   refine WL_guard rfl rfl ?_
   refine WL_load_box_agg [v10, (.int .i64 x4.1.2.1), (.int .i64 x4.1.2.2)] hC42 2 rfl rfl rfl Try.isAgg26 Try.sizeOf26 rfl rfl ?_
   refine WL_nil ?_
   obtain ⟨x13, hr13, hr8⟩ := bind_some hr8
   refine WA_one 34 (by kernel_rfl) rfl ?_
   refine WL_guard rfl rfl ?_
   refine WL_call Try.call31 rfl rfl (c_M_IsLedger (x4.1.1, x4.1.2.1, x4.1.2.2) v10 ((hC42.ro 3 rfl).now (Keep.refl _ _)) x13 hr13) ?_
   intro _ w29 hv16
   obtain ⟨rfl, hB24⟩ := res_bool hv16
   have hC51 := hC42.grow hB24
   refine WL_nil ?_
   refine WA_takeG 35 rfl (by kernel_rfl) (by kernel_rfl) (by kernel_rfl) rfl rfl rfl (fl_not rfl) ?_
   refine WL_guard rfl rfl ?_
   refine WL_not rfl rfl ?_
   refine WL_nil ?_
   refine WA_tk 36 (by kernel_rfl) rfl rfl (fl_pick_f rfl rfl) ?_
   refine WL_pick_f rfl rfl rfl ?_
   refine WL_nil ?_
   refine WA_done (by kernel_rfl) ?_
   have hq11 := Option.some.inj hr8
   subst hq11
   have hC52 := hC51.h0
   refine nrm_sub (l' := [(0, u1), (113, (.bool (!x13)))]) ⟨rfl, rfl, trivial⟩ ?_
   exact ⟨(!x13), rfl, rfl, (((Keep.of hB13).then hB17).then hB24).below, hC52⟩
  rintro _ w17 ⟨x8, rfl, rfl, hB12, hC40⟩
  try dsimp only at hF
  refine W_cond rfl (fun hc11 => ?_) (fun hc11 => ?_)
  ·replace hF := ite_t hF hc11
   refine W_seq_reg ?_
   refine WL_assign rfl rfl ?_
   refine WL_nil ?_
   refine W_ret ?_
   refine nrm_ret ?_
   have hq12 := Option.some.inj hF
   subst hq12
   refine fn_ret1 rfl rfl ?_
   exact ⟨_, rfl, bool_res hC40 _⟩
  replace hF := ite_f hF hc11
  refine W_skip ?_
  refine nrm_normal ?_
  refine W_seq_reg ?_
  refine WL_move rfl rfl ?_
  obtain ⟨x14, hr14, hF⟩ := bind_some hF
  refine WL_call Try.call32 rfl rfl (c_S_DrawTryCall a1 u1 (g1.now hC40.keep) x14 hr14) ?_
  rintro _ w30 ⟨hB25, v14, v15, v16, F10, F11, F12, rfl, hv17, hv18, hv19, hn8, hb8⟩
  obtain ⟨rfl, rfl⟩ := val_int hv19
  have hC53 := hC40.pushL hB25 (Bs := [Item.own v14 x14.1, Item.own v15 x14.2.1]) (Fs := [F10, F11]) ⟨F10, _, rfl, hv17, F11, _, rfl, hv18, rfl⟩ (by simpa using hn8) (fun b h => hb8 b (by simpa using h))
  obtain ⟨v17, rfl, hC54⟩ := st26_own hC53
  have hC55 := hC54.f1
  obtain ⟨rfl, hC56⟩ := st35_own hC55
  refine WL_move rfl rfl ?_
  refine WL_extract rfl rfl rfl ?_
  refine WL_extract rfl rfl rfl ?_
  refine WL_extract rfl rfl rfl ?_
  refine WL_alloc hC56 zero26 rfl rfl (fun b5 w31 hC57 hB26 => ?_)
  refine WL_alloc hC57 zero35 rfl rfl (fun b6 w32 hC58 hB27 => ?_)
  refine WL_store_box_agg (cs' := [v17, (.int .i64 x14.1.2.1), (.int .i64 x14.1.2.2)]) (new := [v17, (.int .i64 x14.1.2.1), (.int .i64 x14.1.2.2)]) hC58 1 rfl rfl (by intro v hv; simp only [List.mem_cons, List.not_mem_nil, or_false] at hv; rcases hv with rfl | rfl | rfl; exact (ro_one (hC58.ro 2 rfl)); exact rfl; exact rfl) rfl Try.sizeOf26 rfl rfl (fun w33 hC59 => ?_)
  try dsimp only [List.set] at hC59
  refine WL_store_box_agg (cs' := [(.int .i64 x14.2.1.1), (.int .i64 x14.2.1.2.1), (.int .i64 x14.2.1.2.2.1), (.bool x14.2.1.2.2.2)]) (new := [(.int .i64 x14.2.1.1), (.int .i64 x14.2.1.2.1), (.int .i64 x14.2.1.2.2.1), (.bool x14.2.1.2.2.2)]) hC59 0 rfl rfl (by intro v hv; simp only [List.mem_cons, List.not_mem_nil, or_false] at hv; rcases hv with rfl | rfl | rfl | rfl; exact rfl; exact rfl; exact rfl; exact rfl) rfl Try.sizeOf35 rfl rfl (fun w34 hC60 => ?_)
  try dsimp only [List.set] at hC60
  refine WL_assign rfl rfl ?_
  refine WL_nil ?_
  refine W_seq_reg ?_
  refine WL_load_box_agg [v17, (.int .i64 x14.1.2.1), (.int .i64 x14.1.2.2)] hC60 1 rfl rfl rfl Try.isAgg26 Try.sizeOf26 rfl rfl ?_
  refine WL_load_box_agg [(.int .i64 x14.2.1.1), (.int .i64 x14.2.1.2.1), (.int .i64 x14.2.1.2.2.1), (.bool x14.2.1.2.2.2)] hC60 0 rfl rfl rfl Try.isAgg35 Try.sizeOf35 rfl rfl ?_
  refine WL_move rfl rfl ?_
  obtain ⟨x15, hr15, hF⟩ := bind_some hF
  refine WL_call Try.call24 rfl rfl (c_M_TryCall (x14.1.1, x14.1.2.1, x14.1.2.2) v17 ((hC60.ro 2 rfl).now (Keep.refl _ _)) (x14.2.1.1, x14.2.1.2.1, x14.2.1.2.2.1, x14.2.1.2.2.2) x14.2.2 x15 hr15) ?_
  rintro _ w35 ⟨hB28, v18, v19, v20, F13, F14, F15, rfl, hv20, hv21, hv22, hn9, hb9⟩
  obtain ⟨rfl, rfl⟩ := val_bool hv22
  have hC61 := hC60.pushL hB28 (Bs := [Item.own v18 x15.1, Item.own v19 x15.2.1]) (Fs := [F13, F14]) ⟨F13, _, rfl, hv20, F14, _, rfl, hv21, rfl⟩ (by simpa using hn9) (fun b h => hb9 b (by simpa using h))
  obtain ⟨v21, rfl, hC62⟩ := st26_own hC61
  have hC63 := hC62.f1
  obtain ⟨rfl, hC64⟩ := st35_own hC63
  refine WL_move rfl rfl ?_
  refine WL_extract rfl rfl rfl ?_
  refine WL_extract rfl rfl rfl ?_
  refine WL_extract rfl rfl rfl ?_
  refine WL_alloc hC64 zero26 rfl rfl (fun b7 w36 hC65 hB29 => ?_)
  refine WL_alloc hC65 zero35 rfl rfl (fun b8 w37 hC66 hB30 => ?_)
  refine WL_store_box_agg (cs' := [v21, (.int .i64 x15.1.2.1), (.int .i64 x15.1.2.2)]) (new := [v21, (.int .i64 x15.1.2.1), (.int .i64 x15.1.2.2)]) hC66 1 rfl rfl (by intro v hv; simp only [List.mem_cons, List.not_mem_nil, or_false] at hv; rcases hv with rfl | rfl | rfl; exact (ro_one (hC66.ro 2 rfl)); exact rfl; exact rfl) rfl Try.sizeOf26 rfl rfl (fun w38 hC67 => ?_)
  try dsimp only [List.set] at hC67
  refine WL_store_box_agg (cs' := [(.int .i64 x15.2.1.1), (.int .i64 x15.2.1.2.1), (.int .i64 x15.2.1.2.2.1), (.bool x15.2.1.2.2.2)]) (new := [(.int .i64 x15.2.1.1), (.int .i64 x15.2.1.2.1), (.int .i64 x15.2.1.2.2.1), (.bool x15.2.1.2.2.2)]) hC67 0 rfl rfl (by intro v hv; simp only [List.mem_cons, List.not_mem_nil, or_false] at hv; rcases hv with rfl | rfl | rfl | rfl; exact rfl; exact rfl; exact rfl; exact rfl) rfl Try.sizeOf35 rfl rfl (fun w39 hC68 => ?_)
  try dsimp only [List.set] at hC68
  refine WL_assign rfl rfl ?_
  refine WL_nil ?_
  refine W_seq_reg ?_
  refine WL_load_box_agg [v17, (.int .i64 x14.1.2.1), (.int .i64 x14.1.2.2)] hC68 4 rfl rfl rfl Try.isAgg26 Try.sizeOf26 rfl rfl ?_
  refine WL_load_box_agg [(.int .i64 x14.2.1.1), (.int .i64 x14.2.1.2.1), (.int .i64 x14.2.1.2.2.1), (.bool x14.2.1.2.2.2)] hC68 3 rfl rfl rfl Try.isAgg35 Try.sizeOf35 rfl rfl ?_
  refine WL_move rfl rfl ?_
  obtain ⟨x16, hr16, hF⟩ := bind_some hF
  refine WL_call Try.call22 rfl rfl (c_S_TryCall (x14.1.1, x14.1.2.1, x14.1.2.2) v17 ((hC68.ro 5 rfl).now (Keep.refl _ _)) (x14.2.1.1, x14.2.1.2.1, x14.2.1.2.2.1, x14.2.1.2.2.2) x14.2.2 x16 hr16) ?_
  rintro _ w40 ⟨hB31, v22, v23, v24, F16, F17, F18, rfl, hv23, hv24, hv25, hn10, hb10⟩
  obtain ⟨rfl, rfl⟩ := val_bool hv25
  have hC69 := hC68.pushL hB31 (Bs := [Item.own v22 x16.1, Item.own v23 x16.2.1]) (Fs := [F16, F17]) ⟨F16, _, rfl, hv23, F17, _, rfl, hv24, rfl⟩ (by simpa using hn10) (fun b h => hb10 b (by simpa using h))
  obtain ⟨v25, rfl, hC70⟩ := st26_own hC69
  have hC71 := hC70.f1
  obtain ⟨rfl, hC72⟩ := st35_own hC71
  refine WL_move rfl rfl ?_
  refine WL_extract rfl rfl rfl ?_
  refine WL_extract rfl rfl rfl ?_
  refine WL_extract rfl rfl rfl ?_
  refine WL_alloc hC72 zero26 rfl rfl (fun b9 w41 hC73 hB32 => ?_)
  refine WL_alloc hC73 zero35 rfl rfl (fun b10 w42 hC74 hB33 => ?_)
  refine WL_store_box_agg (cs' := [v25, (.int .i64 x16.1.2.1), (.int .i64 x16.1.2.2)]) (new := [v25, (.int .i64 x16.1.2.1), (.int .i64 x16.1.2.2)]) hC74 1 rfl rfl (by intro v hv; simp only [List.mem_cons, List.not_mem_nil, or_false] at hv; rcases hv with rfl | rfl | rfl; exact (ro_one (hC74.ro 2 rfl)); exact rfl; exact rfl) rfl Try.sizeOf26 rfl rfl (fun w43 hC75 => ?_)
  try dsimp only [List.set] at hC75
  refine WL_store_box_agg (cs' := [(.int .i64 x16.2.1.1), (.int .i64 x16.2.1.2.1), (.int .i64 x16.2.1.2.2.1), (.bool x16.2.1.2.2.2)]) (new := [(.int .i64 x16.2.1.1), (.int .i64 x16.2.1.2.1), (.int .i64 x16.2.1.2.2.1), (.bool x16.2.1.2.2.2)]) hC75 0 rfl rfl (by intro v hv; simp only [List.mem_cons, List.not_mem_nil, or_false] at hv; rcases hv with rfl | rfl | rfl | rfl; exact rfl; exact rfl; exact rfl; exact rfl) rfl Try.sizeOf35 rfl rfl (fun w44 hC76 => ?_)
  try dsimp only [List.set] at hC76
  refine WL_assign rfl rfl ?_
  refine WL_nil ?_
  refine W_seq_reg ?_
  refine WL_move rfl rfl ?_
  obtain ⟨x17, hr17, hF⟩ := bind_some hF
  refine WL_call Try.call33 rfl rfl (c_S_DrawWaitBefore a1 u1 (g1.now hC76.keep) x17 hr17) ?_
  intro _ w45 hv26
  obtain ⟨rfl, hB34⟩ := res_int hv26
  have hC77 := hC76.grow hB34
  refine WL_assign rfl rfl ?_
  refine WL_nil ?_
  obtain ⟨r3, hr18, hF⟩ := bind_some hF
  refine W_cut (fun l w => ∃ x18 : Bool, x18 = r3 ∧ l = [(2, (.bool x18))] ∧ Below w45.heap.size w45 w ∧ Ctx [] w0 w []) ?_ ?_
  ·refine W_reg ?_
   refine WL_move rfl rfl ?_
   refine WL_move rfl rfl ?_
   refine WL_bool_eql Try.underlying4 rfl rfl rfl ?_
   refine WL_move rfl rfl ?_
   refine WL_fork (fun hc12 => ?_) (fun hc12 => ?_)
   ·replace hr18 := ite_t hr18 hc12
    refine WL_guard rfl rfl ?_
    refine WL_load_box_agg [(.int .i64 x15.2.1.1), (.int .i64 x15.2.1.2.1), (.int .i64 x15.2.1.2.2.1), (.bool x15.2.1.2.2.2)] hC77 3 rfl rfl rfl Try.isAgg35 Try.sizeOf35 rfl rfl ?_
    refine WL_guard rfl rfl ?_
    refine WL_load_box_agg [(.int .i64 x16.2.1.1), (.int .i64 x16.2.1.2.1), (.int .i64 x16.2.1.2.2.1), (.bool x16.2.1.2.2.2)] hC77 0 rfl rfl rfl Try.isAgg35 Try.sizeOf35 rfl rfl ?_
    refine WL_guard rfl rfl ?_
    refine WL_agg_eql Try.underlying35 Try.stoodInHeld35 Try.eqGuardType35 (fun w => (eqF_int (by decide) Try.underlying3 rfl rfl (eqF_int (by decide) Try.underlying3 rfl rfl (eqF_int (by decide) Try.underlying3 rfl rfl (eqF_bool (by decide) Try.underlying4 rfl rfl eqF_nil))))) rfl rfl rfl ?_
    refine WL_pick_t rfl rfl rfl ?_
    refine WL_move rfl rfl ?_
    refine WL_fork (fun hc13 => ?_) (fun hc13 => ?_)
    ·replace hr18 := ite_t hr18 hc13
     refine WL_guard rfl rfl ?_
     refine WL_field Try.underlying26 rfl rfl (fun w => ⟨_, Try.sizeOf22 w⟩) rfl rfl ?_
     refine WL_guard rfl rfl ?_
     refine WL_load_box hC77 4 rfl rfl Try.isAgg22 rfl rfl ?_
     refine WL_guard rfl rfl ?_
     refine WL_field Try.underlying26 rfl rfl (fun w => ⟨_, Try.sizeOf22 w⟩) rfl rfl ?_
     refine WL_guard rfl rfl ?_
     refine WL_load_box hC77 1 rfl rfl Try.isAgg22 rfl rfl ?_
     obtain ⟨x19, hr19, hr18⟩ := bind_some hr18
     refine WL_guard rfl rfl ?_
     refine WL_call Try.call28 rfl rfl (c_Q_sameInts x15.1.1 v21 ((hC77.ro 5 rfl).now (Keep.refl _ _)) x16.1.1 v25 ((hC77.ro 2 rfl).now (Keep.refl _ _)) x19 hr19) ?_
     intro _ w47 hv27
     obtain ⟨rfl, hB36⟩ := res_bool hv27
     have hC79 := hC77.grow hB36
     refine WL_pick_t rfl rfl rfl ?_
     refine WL_move rfl rfl ?_
     refine WL_fork (fun hc14 => ?_) (fun hc14 => ?_)
     ·replace hr18 := ite_t hr18 hc14
      refine WL_guard rfl rfl ?_
      refine WL_field Try.underlying26 rfl rfl (fun w => ⟨_, Try.sizeOf3 w⟩) rfl rfl ?_
      refine WL_guard rfl rfl ?_
      refine WL_load_box hC79 4 rfl rfl Try.isAgg3 rfl rfl ?_
      refine WL_guard rfl rfl ?_
      refine WL_field Try.underlying26 rfl rfl (fun w => ⟨_, Try.sizeOf3 w⟩) rfl rfl ?_
      refine WL_guard rfl rfl ?_
      refine WL_load_box hC79 1 rfl rfl Try.isAgg3 rfl rfl ?_
      refine WL_guard rfl rfl ?_
      refine WL_eql rfl rfl rfl ?_
      refine WL_pick_t rfl rfl rfl ?_
      refine WL_move rfl rfl ?_
      refine WL_fork (fun hc15 => ?_) (fun hc15 => ?_)
      ·replace hr18 := ite_t hr18 hc15
       refine WL_guard rfl rfl ?_
       refine WL_field Try.underlying26 rfl rfl (fun w => ⟨_, Try.sizeOf3 w⟩) rfl rfl ?_
       refine WL_guard rfl rfl ?_
       refine WL_load_box hC79 4 rfl rfl Try.isAgg3 rfl rfl ?_
       refine WL_guard rfl rfl ?_
       refine WL_field Try.underlying26 rfl rfl (fun w => ⟨_, Try.sizeOf3 w⟩) rfl rfl ?_
       refine WL_guard rfl rfl ?_
       refine WL_load_box hC79 1 rfl rfl Try.isAgg3 rfl rfl ?_
       refine WL_guard rfl rfl ?_
       refine WL_eql rfl rfl rfl ?_
       refine WL_pick_t rfl rfl rfl ?_
       refine WL_move rfl rfl ?_
       refine WL_fork (fun hc16 => ?_) (fun hc16 => ?_)
       ·replace hr18 := ite_t hr18 hc16
        refine WL_guard rfl rfl ?_
        refine WL_move rfl rfl ?_
        obtain ⟨x20, hr20, hr18⟩ := bind_some hr18
        refine WL_guard rfl rfl ?_
        refine WL_call Try.call34 rfl rfl (c_M_WaitBefore x17 x20 hr20) ?_
        intro _ w48 hv28
        obtain ⟨rfl, hB37⟩ := res_int hv28
        have hC80 := hC79.grow hB37
        refine WL_guard rfl rfl ?_
        refine WL_move rfl rfl ?_
        obtain ⟨x21, hr21, hr18⟩ := bind_some hr18
        refine WL_guard rfl rfl ?_
        refine WL_call Try.call35 rfl rfl (c_S_WaitBefore x17 x21 hr21) ?_
        intro _ w49 hv29
        obtain ⟨rfl, hB38⟩ := res_int hv29
        have hC81 := hC80.grow hB38
        refine WL_guard rfl rfl ?_
        refine WL_eql rfl rfl rfl ?_
        refine WL_pick_t rfl rfl rfl ?_
        refine WL_move rfl rfl ?_
        refine WL_fork (fun hc17 => ?_) (fun hc17 => ?_)
        ·replace hr18 := ite_t hr18 hc17
         refine WL_guard rfl rfl ?_
         refine WL_move rfl rfl ?_
         obtain ⟨x22, hr22, hr18⟩ := bind_some hr18
         refine WL_guard rfl rfl ?_
         refine WL_call Try.call34 rfl rfl (c_M_WaitBefore x17 x22 hr22) ?_
         intro _ w50 hv30
         obtain ⟨rfl, hB39⟩ := res_int hv30
         have hC82 := hC81.grow hB39
         refine WL_guard rfl rfl ?_
         refine WL_move rfl rfl ?_
         refine WL_guard rfl rfl ?_
         refine WL_add rfl rfl rfl ?_
         obtain ⟨x23, hr23, hr18⟩ := bind_some hr18
         refine WL_guard rfl rfl ?_
         refine WL_call Try.call34 rfl rfl (c_M_WaitBefore (w64 (x17 + 1)) x23 hr23) ?_
         intro _ w51 hv31
         obtain ⟨rfl, hB40⟩ := res_int hv31
         have hC83 := hC82.grow hB40
         refine WL_guard rfl rfl ?_
         refine WL_leq rfl rfl rfl ?_
         refine WL_pick_t rfl rfl rfl ?_
         refine WL_assign rfl rfl ?_
         refine WL_nil ?_
         have hq13 := Option.some.inj hr18
         subst hq13
         have hC84 := hC83.h0
         refine nrm_sub (l' := [(2, (.bool (decide (x22 ≤ x23))))]) ⟨rfl, trivial⟩ ?_
         exact ⟨(decide (x22 ≤ x23)), rfl, rfl, (((((Keep.of hB36).then hB37).then hB38).then hB39).then hB40).below, hC84⟩
        replace hr18 := ite_f hr18 hc17
        refine WL_guard_skip rfl rfl (by simp) rfl ?_
        refine WL_guard_skip rfl rfl (by simp) rfl ?_
        refine WL_guard_skip rfl rfl (by simp) rfl ?_
        refine WL_guard_skip rfl rfl (by simp) rfl ?_
        refine WL_guard_skip rfl rfl (by simp) rfl ?_
        refine WL_guard_skip rfl rfl (by simp) rfl ?_
        refine WL_pick_f rfl rfl rfl ?_
        refine WL_assign rfl rfl ?_
        refine WL_nil ?_
        have hq14 := Option.some.inj hr18
        subst hq14
        have hC85 := hC81.h0
        refine nrm_sub (l' := [(2, (.bool false))]) ⟨rfl, trivial⟩ ?_
        exact ⟨false, rfl, rfl, (((Keep.of hB36).then hB37).then hB38).below, hC85⟩
       replace hr18 := ite_f hr18 hc16
       refine WL_guard_skip rfl rfl (by simp) rfl ?_
       refine WL_guard_skip rfl rfl (by simp) rfl ?_
       refine WL_guard_skip rfl rfl (by simp) rfl ?_
       refine WL_guard_skip rfl rfl (by simp) rfl ?_
       refine WL_guard_skip rfl rfl (by simp) rfl ?_
       refine WL_pick_f rfl rfl rfl ?_
       refine WL_move rfl rfl ?_
       refine WL_guard_skip rfl rfl (by simp) rfl ?_
       refine WL_guard_skip rfl rfl (by simp) rfl ?_
       refine WL_guard_skip rfl rfl (by simp) rfl ?_
       refine WL_guard_skip rfl rfl (by simp) rfl ?_
       refine WL_guard_skip rfl rfl (by simp) rfl ?_
       refine WL_guard_skip rfl rfl (by simp) rfl ?_
       refine WL_pick_f rfl rfl rfl ?_
       refine WL_assign rfl rfl ?_
       refine WL_nil ?_
       have hq15 := Option.some.inj hr18
       subst hq15
       have hC86 := hC79.h0
       refine nrm_sub (l' := [(2, (.bool false))]) ⟨rfl, trivial⟩ ?_
       exact ⟨false, rfl, rfl, (Keep.of hB36).below, hC86⟩
      replace hr18 := ite_f hr18 hc15
      refine WL_guard_skip rfl rfl (by simp) rfl ?_
      refine WL_guard_skip rfl rfl (by simp) rfl ?_
      refine WL_guard_skip rfl rfl (by simp) rfl ?_
      refine WL_guard_skip rfl rfl (by simp) rfl ?_
      refine WL_guard_skip rfl rfl (by simp) rfl ?_
      refine WL_pick_f rfl rfl rfl ?_
      refine WL_move rfl rfl ?_
      refine WL_guard_skip rfl rfl (by simp) rfl ?_
      refine WL_guard_skip rfl rfl (by simp) rfl ?_
      refine WL_guard_skip rfl rfl (by simp) rfl ?_
      refine WL_guard_skip rfl rfl (by simp) rfl ?_
      refine WL_guard_skip rfl rfl (by simp) rfl ?_
      refine WL_pick_f rfl rfl rfl ?_
      refine WL_move rfl rfl ?_
      refine WL_guard_skip rfl rfl (by simp) rfl ?_
      refine WL_guard_skip rfl rfl (by simp) rfl ?_
      refine WL_guard_skip rfl rfl (by simp) rfl ?_
      refine WL_guard_skip rfl rfl (by simp) rfl ?_
      refine WL_guard_skip rfl rfl (by simp) rfl ?_
      refine WL_guard_skip rfl rfl (by simp) rfl ?_
      refine WL_pick_f rfl rfl rfl ?_
      refine WL_assign rfl rfl ?_
      refine WL_nil ?_
      have hq16 := Option.some.inj hr18
      subst hq16
      have hC87 := hC79.h0
      refine nrm_sub (l' := [(2, (.bool false))]) ⟨rfl, trivial⟩ ?_
      exact ⟨false, rfl, rfl, (Keep.of hB36).below, hC87⟩
     replace hr18 := ite_f hr18 hc14
     refine WL_guard_skip rfl rfl (by simp) rfl ?_
     refine WL_guard_skip rfl rfl (by simp) rfl ?_
     refine WL_guard_skip rfl rfl (by simp) rfl ?_
     refine WL_guard_skip rfl rfl (by simp) rfl ?_
     refine WL_guard_skip rfl rfl (by simp) rfl ?_
     refine WL_pick_f rfl rfl rfl ?_
     refine WL_move rfl rfl ?_
     refine WL_guard_skip rfl rfl (by simp) rfl ?_
     refine WL_guard_skip rfl rfl (by simp) rfl ?_
     refine WL_guard_skip rfl rfl (by simp) rfl ?_
     refine WL_guard_skip rfl rfl (by simp) rfl ?_
     refine WL_guard_skip rfl rfl (by simp) rfl ?_
     refine WL_pick_f rfl rfl rfl ?_
     refine WL_move rfl rfl ?_
     refine WL_guard_skip rfl rfl (by simp) rfl ?_
     refine WL_guard_skip rfl rfl (by simp) rfl ?_
     refine WL_guard_skip rfl rfl (by simp) rfl ?_
     refine WL_guard_skip rfl rfl (by simp) rfl ?_
     refine WL_guard_skip rfl rfl (by simp) rfl ?_
     refine WL_pick_f rfl rfl rfl ?_
     refine WL_move rfl rfl ?_
     refine WL_guard_skip rfl rfl (by simp) rfl ?_
     refine WL_guard_skip rfl rfl (by simp) rfl ?_
     refine WL_guard_skip rfl rfl (by simp) rfl ?_
     refine WL_guard_skip rfl rfl (by simp) rfl ?_
     refine WL_guard_skip rfl rfl (by simp) rfl ?_
     refine WL_guard_skip rfl rfl (by simp) rfl ?_
     refine WL_pick_f rfl rfl rfl ?_
     refine WL_assign rfl rfl ?_
     refine WL_nil ?_
     have hq17 := Option.some.inj hr18
     subst hq17
     have hC88 := hC79.h0
     refine nrm_sub (l' := [(2, (.bool false))]) ⟨rfl, trivial⟩ ?_
     exact ⟨false, rfl, rfl, (Keep.of hB36).below, hC88⟩
    replace hr18 := ite_f hr18 hc13
    refine WL_guard_skip rfl rfl (by simp) rfl ?_
    refine WL_guard_skip rfl rfl (by simp) rfl ?_
    refine WL_guard_skip rfl rfl (by simp) rfl ?_
    refine WL_guard_skip rfl rfl (by simp) rfl ?_
    refine WL_guard_skip rfl rfl (by simp) rfl ?_
    refine WL_pick_f rfl rfl rfl ?_
    refine WL_move rfl rfl ?_
    refine WL_guard_skip rfl rfl (by simp) rfl ?_
    refine WL_guard_skip rfl rfl (by simp) rfl ?_
    refine WL_guard_skip rfl rfl (by simp) rfl ?_
    refine WL_guard_skip rfl rfl (by simp) rfl ?_
    refine WL_guard_skip rfl rfl (by simp) rfl ?_
    refine WL_pick_f rfl rfl rfl ?_
    refine WL_move rfl rfl ?_
    refine WL_guard_skip rfl rfl (by simp) rfl ?_
    refine WL_guard_skip rfl rfl (by simp) rfl ?_
    refine WL_guard_skip rfl rfl (by simp) rfl ?_
    refine WL_guard_skip rfl rfl (by simp) rfl ?_
    refine WL_guard_skip rfl rfl (by simp) rfl ?_
    refine WL_pick_f rfl rfl rfl ?_
    refine WL_move rfl rfl ?_
    refine WL_guard_skip rfl rfl (by simp) rfl ?_
    refine WL_guard_skip rfl rfl (by simp) rfl ?_
    refine WL_guard_skip rfl rfl (by simp) rfl ?_
    refine WL_guard_skip rfl rfl (by simp) rfl ?_
    refine WL_guard_skip rfl rfl (by simp) rfl ?_
    refine WL_pick_f rfl rfl rfl ?_
    refine WL_move rfl rfl ?_
    refine WL_guard_skip rfl rfl (by simp) rfl ?_
    refine WL_guard_skip rfl rfl (by simp) rfl ?_
    refine WL_guard_skip rfl rfl (by simp) rfl ?_
    refine WL_guard_skip rfl rfl (by simp) rfl ?_
    refine WL_guard_skip rfl rfl (by simp) rfl ?_
    refine WL_guard_skip rfl rfl (by simp) rfl ?_
    refine WL_pick_f rfl rfl rfl ?_
    refine WL_assign rfl rfl ?_
    refine WL_nil ?_
    have hq18 := Option.some.inj hr18
    subst hq18
    have hC89 := hC77.h0
    refine nrm_sub (l' := [(2, (.bool false))]) ⟨rfl, trivial⟩ ?_
    exact ⟨false, rfl, rfl, (Below.refl _ _), hC89⟩
   replace hr18 := ite_f hr18 hc12
   refine WL_guard_skip rfl rfl (by simp) rfl ?_
   refine WL_guard_skip rfl rfl (by simp) rfl ?_
   refine WL_guard_skip rfl rfl (by simp) rfl ?_
   refine WL_pick_f rfl rfl rfl ?_
   refine WL_move rfl rfl ?_
   refine WL_guard_skip rfl rfl (by simp) rfl ?_
   refine WL_guard_skip rfl rfl (by simp) rfl ?_
   refine WL_guard_skip rfl rfl (by simp) rfl ?_
   refine WL_guard_skip rfl rfl (by simp) rfl ?_
   refine WL_guard_skip rfl rfl (by simp) rfl ?_
   refine WL_pick_f rfl rfl rfl ?_
   refine WL_move rfl rfl ?_
   refine WL_guard_skip rfl rfl (by simp) rfl ?_
   refine WL_guard_skip rfl rfl (by simp) rfl ?_
   refine WL_guard_skip rfl rfl (by simp) rfl ?_
   refine WL_guard_skip rfl rfl (by simp) rfl ?_
   refine WL_guard_skip rfl rfl (by simp) rfl ?_
   refine WL_pick_f rfl rfl rfl ?_
   refine WL_move rfl rfl ?_
   refine WL_guard_skip rfl rfl (by simp) rfl ?_
   refine WL_guard_skip rfl rfl (by simp) rfl ?_
   refine WL_guard_skip rfl rfl (by simp) rfl ?_
   refine WL_guard_skip rfl rfl (by simp) rfl ?_
   refine WL_guard_skip rfl rfl (by simp) rfl ?_
   refine WL_pick_f rfl rfl rfl ?_
   refine WL_move rfl rfl ?_
   refine WL_guard_skip rfl rfl (by simp) rfl ?_
   refine WL_guard_skip rfl rfl (by simp) rfl ?_
   refine WL_guard_skip rfl rfl (by simp) rfl ?_
   refine WL_guard_skip rfl rfl (by simp) rfl ?_
   refine WL_guard_skip rfl rfl (by simp) rfl ?_
   refine WL_pick_f rfl rfl rfl ?_
   refine WL_move rfl rfl ?_
   refine WL_guard_skip rfl rfl (by simp) rfl ?_
   refine WL_guard_skip rfl rfl (by simp) rfl ?_
   refine WL_guard_skip rfl rfl (by simp) rfl ?_
   refine WL_guard_skip rfl rfl (by simp) rfl ?_
   refine WL_guard_skip rfl rfl (by simp) rfl ?_
   refine WL_guard_skip rfl rfl (by simp) rfl ?_
   refine WL_pick_f rfl rfl rfl ?_
   refine WL_assign rfl rfl ?_
   refine WL_nil ?_
   have hq19 := Option.some.inj hr18
   subst hq19
   have hC90 := hC77.h0
   refine nrm_sub (l' := [(2, (.bool false))]) ⟨rfl, trivial⟩ ?_
   exact ⟨false, rfl, rfl, (Below.refl _ _), hC90⟩
  rintro _ w46 ⟨x18, rfl, rfl, hB35, hC78⟩
  try dsimp only at hF
  refine W_ret ?_
  have hq20 := Option.some.inj hF
  subst hq20
  refine fn_ret1 rfl rfl ?_
  exact ⟨_, rfl, bool_res hC78 _⟩
 replace hF := ite_f hF hc6
 refine W_skip ?_
 refine nrm_normal ?_
 refine W_seq_reg ?_
 refine WL_move rfl rfl ?_
 obtain ⟨x24, hr24, hF⟩ := bind_some hF
 refine WL_call Try.call32 rfl rfl (c_S_DrawTryCall a1 u1 (g1.now hC14.keep) x24 hr24) ?_
 rintro _ w52 ⟨hB41, v26, v27, v28, F19, F20, F21, rfl, hv32, hv33, hv34, hn11, hb11⟩
 obtain ⟨rfl, rfl⟩ := val_int hv34
 have hC91 := hC14.pushL hB41 (Bs := [Item.own v26 x24.1, Item.own v27 x24.2.1]) (Fs := [F19, F20]) ⟨F19, _, rfl, hv32, F20, _, rfl, hv33, rfl⟩ (by simpa using hn11) (fun b h => hb11 b (by simpa using h))
 obtain ⟨v29, rfl, hC92⟩ := st26_own hC91
 have hC93 := hC92.f1
 obtain ⟨rfl, hC94⟩ := st35_own hC93
 refine WL_move rfl rfl ?_
 refine WL_extract rfl rfl rfl ?_
 refine WL_extract rfl rfl rfl ?_
 refine WL_extract rfl rfl rfl ?_
 refine WL_alloc hC94 zero26 rfl rfl (fun b11 w53 hC95 hB42 => ?_)
 refine WL_alloc hC95 zero35 rfl rfl (fun b12 w54 hC96 hB43 => ?_)
 refine WL_store_box_agg (cs' := [v29, (.int .i64 x24.1.2.1), (.int .i64 x24.1.2.2)]) (new := [v29, (.int .i64 x24.1.2.1), (.int .i64 x24.1.2.2)]) hC96 1 rfl rfl (by intro v hv; simp only [List.mem_cons, List.not_mem_nil, or_false] at hv; rcases hv with rfl | rfl | rfl; exact (ro_one (hC96.ro 2 rfl)); exact rfl; exact rfl) rfl Try.sizeOf26 rfl rfl (fun w55 hC97 => ?_)
 try dsimp only [List.set] at hC97
 refine WL_store_box_agg (cs' := [(.int .i64 x24.2.1.1), (.int .i64 x24.2.1.2.1), (.int .i64 x24.2.1.2.2.1), (.bool x24.2.1.2.2.2)]) (new := [(.int .i64 x24.2.1.1), (.int .i64 x24.2.1.2.1), (.int .i64 x24.2.1.2.2.1), (.bool x24.2.1.2.2.2)]) hC97 0 rfl rfl (by intro v hv; simp only [List.mem_cons, List.not_mem_nil, or_false] at hv; rcases hv with rfl | rfl | rfl | rfl; exact rfl; exact rfl; exact rfl; exact rfl) rfl Try.sizeOf35 rfl rfl (fun w56 hC98 => ?_)
 try dsimp only [List.set] at hC98
 refine WL_assign rfl rfl ?_
 refine WL_nil ?_
 refine W_seq_reg ?_
 refine WL_load_box_agg [v29, (.int .i64 x24.1.2.1), (.int .i64 x24.1.2.2)] hC98 1 rfl rfl rfl Try.isAgg26 Try.sizeOf26 rfl rfl ?_
 refine WL_load_box_agg [(.int .i64 x24.2.1.1), (.int .i64 x24.2.1.2.1), (.int .i64 x24.2.1.2.2.1), (.bool x24.2.1.2.2.2)] hC98 0 rfl rfl rfl Try.isAgg35 Try.sizeOf35 rfl rfl ?_
 refine WL_move rfl rfl ?_
 obtain ⟨x25, hr25, hF⟩ := bind_some hF
 refine WL_call Try.call24 rfl rfl (c_M_TryCall (x24.1.1, x24.1.2.1, x24.1.2.2) v29 ((hC98.ro 2 rfl).now (Keep.refl _ _)) (x24.2.1.1, x24.2.1.2.1, x24.2.1.2.2.1, x24.2.1.2.2.2) x24.2.2 x25 hr25) ?_
 rintro _ w57 ⟨hB44, v30, v31, v32, F22, F23, F24, rfl, hv35, hv36, hv37, hn12, hb12⟩
 obtain ⟨rfl, rfl⟩ := val_bool hv37
 have hC99 := hC98.pushL hB44 (Bs := [Item.own v30 x25.1, Item.own v31 x25.2.1]) (Fs := [F22, F23]) ⟨F22, _, rfl, hv35, F23, _, rfl, hv36, rfl⟩ (by simpa using hn12) (fun b h => hb12 b (by simpa using h))
 obtain ⟨v33, rfl, hC100⟩ := st26_own hC99
 have hC101 := hC100.f1
 obtain ⟨rfl, hC102⟩ := st35_own hC101
 refine WL_move rfl rfl ?_
 refine WL_extract rfl rfl rfl ?_
 refine WL_extract rfl rfl rfl ?_
 refine WL_extract rfl rfl rfl ?_
 refine WL_alloc hC102 zero26 rfl rfl (fun b13 w58 hC103 hB45 => ?_)
 refine WL_alloc hC103 zero35 rfl rfl (fun b14 w59 hC104 hB46 => ?_)
 refine WL_store_box_agg (cs' := [v33, (.int .i64 x25.1.2.1), (.int .i64 x25.1.2.2)]) (new := [v33, (.int .i64 x25.1.2.1), (.int .i64 x25.1.2.2)]) hC104 1 rfl rfl (by intro v hv; simp only [List.mem_cons, List.not_mem_nil, or_false] at hv; rcases hv with rfl | rfl | rfl; exact (ro_one (hC104.ro 2 rfl)); exact rfl; exact rfl) rfl Try.sizeOf26 rfl rfl (fun w60 hC105 => ?_)
 try dsimp only [List.set] at hC105
 refine WL_store_box_agg (cs' := [(.int .i64 x25.2.1.1), (.int .i64 x25.2.1.2.1), (.int .i64 x25.2.1.2.2.1), (.bool x25.2.1.2.2.2)]) (new := [(.int .i64 x25.2.1.1), (.int .i64 x25.2.1.2.1), (.int .i64 x25.2.1.2.2.1), (.bool x25.2.1.2.2.2)]) hC105 0 rfl rfl (by intro v hv; simp only [List.mem_cons, List.not_mem_nil, or_false] at hv; rcases hv with rfl | rfl | rfl | rfl; exact rfl; exact rfl; exact rfl; exact rfl) rfl Try.sizeOf35 rfl rfl (fun w61 hC106 => ?_)
 try dsimp only [List.set] at hC106
 refine WL_assign rfl rfl ?_
 refine WL_nil ?_
 refine W_seq_reg ?_
 refine WL_load_box_agg [v29, (.int .i64 x24.1.2.1), (.int .i64 x24.1.2.2)] hC106 4 rfl rfl rfl Try.isAgg26 Try.sizeOf26 rfl rfl ?_
 refine WL_load_box_agg [(.int .i64 x24.2.1.1), (.int .i64 x24.2.1.2.1), (.int .i64 x24.2.1.2.2.1), (.bool x24.2.1.2.2.2)] hC106 3 rfl rfl rfl Try.isAgg35 Try.sizeOf35 rfl rfl ?_
 refine WL_move rfl rfl ?_
 obtain ⟨x26, hr26, hF⟩ := bind_some hF
 refine WL_call Try.call22 rfl rfl (c_S_TryCall (x24.1.1, x24.1.2.1, x24.1.2.2) v29 ((hC106.ro 5 rfl).now (Keep.refl _ _)) (x24.2.1.1, x24.2.1.2.1, x24.2.1.2.2.1, x24.2.1.2.2.2) x24.2.2 x26 hr26) ?_
 rintro _ w62 ⟨hB47, v34, v35, v36, F25, F26, F27, rfl, hv38, hv39, hv40, hn13, hb13⟩
 obtain ⟨rfl, rfl⟩ := val_bool hv40
 have hC107 := hC106.pushL hB47 (Bs := [Item.own v34 x26.1, Item.own v35 x26.2.1]) (Fs := [F25, F26]) ⟨F25, _, rfl, hv38, F26, _, rfl, hv39, rfl⟩ (by simpa using hn13) (fun b h => hb13 b (by simpa using h))
 obtain ⟨v37, rfl, hC108⟩ := st26_own hC107
 have hC109 := hC108.f1
 obtain ⟨rfl, hC110⟩ := st35_own hC109
 refine WL_move rfl rfl ?_
 refine WL_extract rfl rfl rfl ?_
 refine WL_extract rfl rfl rfl ?_
 refine WL_extract rfl rfl rfl ?_
 refine WL_alloc hC110 zero26 rfl rfl (fun b15 w63 hC111 hB48 => ?_)
 refine WL_alloc hC111 zero35 rfl rfl (fun b16 w65 hC112 hB49 => ?_)
 refine WL_store_box_agg (cs' := [v37, (.int .i64 x26.1.2.1), (.int .i64 x26.1.2.2)]) (new := [v37, (.int .i64 x26.1.2.1), (.int .i64 x26.1.2.2)]) hC112 1 rfl rfl (by intro v hv; simp only [List.mem_cons, List.not_mem_nil, or_false] at hv; rcases hv with rfl | rfl | rfl; exact (ro_one (hC112.ro 2 rfl)); exact rfl; exact rfl) rfl Try.sizeOf26 rfl rfl (fun w66 hC113 => ?_)
 try dsimp only [List.set] at hC113
 refine WL_store_box_agg (cs' := [(.int .i64 x26.2.1.1), (.int .i64 x26.2.1.2.1), (.int .i64 x26.2.1.2.2.1), (.bool x26.2.1.2.2.2)]) (new := [(.int .i64 x26.2.1.1), (.int .i64 x26.2.1.2.1), (.int .i64 x26.2.1.2.2.1), (.bool x26.2.1.2.2.2)]) hC113 0 rfl rfl (by intro v hv; simp only [List.mem_cons, List.not_mem_nil, or_false] at hv; rcases hv with rfl | rfl | rfl | rfl; exact rfl; exact rfl; exact rfl; exact rfl) rfl Try.sizeOf35 rfl rfl (fun w67 hC114 => ?_)
 try dsimp only [List.set] at hC114
 refine WL_assign rfl rfl ?_
 refine WL_nil ?_
 refine W_seq_reg ?_
 refine WL_move rfl rfl ?_
 obtain ⟨x27, hr27, hF⟩ := bind_some hF
 refine WL_call Try.call33 rfl rfl (c_S_DrawWaitBefore a1 u1 (g1.now hC114.keep) x27 hr27) ?_
 intro _ w68 hv41
 obtain ⟨rfl, hB50⟩ := res_int hv41
 have hC115 := hC114.grow hB50
 refine WL_assign rfl rfl ?_
 refine WL_nil ?_
 obtain ⟨r4, hr28, hF⟩ := bind_some hF
 refine W_cut (fun l w => ∃ x28 : Bool, x28 = r4 ∧ l = [(2, (.bool x28))] ∧ Below w68.heap.size w68 w ∧ Ctx [] w0 w []) ?_ ?_
 ·refine W_reg ?_
  refine WL_move rfl rfl ?_
  refine WL_move rfl rfl ?_
  refine WL_bool_eql Try.underlying4 rfl rfl rfl ?_
  refine WL_move rfl rfl ?_
  refine WL_fork (fun hc18 => ?_) (fun hc18 => ?_)
  ·replace hr28 := ite_t hr28 hc18
   refine WL_guard rfl rfl ?_
   refine WL_load_box_agg [(.int .i64 x25.2.1.1), (.int .i64 x25.2.1.2.1), (.int .i64 x25.2.1.2.2.1), (.bool x25.2.1.2.2.2)] hC115 3 rfl rfl rfl Try.isAgg35 Try.sizeOf35 rfl rfl ?_
   refine WL_guard rfl rfl ?_
   refine WL_load_box_agg [(.int .i64 x26.2.1.1), (.int .i64 x26.2.1.2.1), (.int .i64 x26.2.1.2.2.1), (.bool x26.2.1.2.2.2)] hC115 0 rfl rfl rfl Try.isAgg35 Try.sizeOf35 rfl rfl ?_
   refine WL_guard rfl rfl ?_
   refine WL_agg_eql Try.underlying35 Try.stoodInHeld35 Try.eqGuardType35 (fun w => (eqF_int (by decide) Try.underlying3 rfl rfl (eqF_int (by decide) Try.underlying3 rfl rfl (eqF_int (by decide) Try.underlying3 rfl rfl (eqF_bool (by decide) Try.underlying4 rfl rfl eqF_nil))))) rfl rfl rfl ?_
   refine WL_pick_t rfl rfl rfl ?_
   refine WL_move rfl rfl ?_
   refine WL_fork (fun hc19 => ?_) (fun hc19 => ?_)
   ·replace hr28 := ite_t hr28 hc19
    refine WL_guard rfl rfl ?_
    refine WL_field Try.underlying26 rfl rfl (fun w => ⟨_, Try.sizeOf22 w⟩) rfl rfl ?_
    refine WL_guard rfl rfl ?_
    refine WL_load_box hC115 4 rfl rfl Try.isAgg22 rfl rfl ?_
    refine WL_guard rfl rfl ?_
    refine WL_field Try.underlying26 rfl rfl (fun w => ⟨_, Try.sizeOf22 w⟩) rfl rfl ?_
    refine WL_guard rfl rfl ?_
    refine WL_load_box hC115 1 rfl rfl Try.isAgg22 rfl rfl ?_
    obtain ⟨x29, hr29, hr28⟩ := bind_some hr28
    refine WL_guard rfl rfl ?_
    refine WL_call Try.call28 rfl rfl (c_Q_sameInts x25.1.1 v33 ((hC115.ro 5 rfl).now (Keep.refl _ _)) x26.1.1 v37 ((hC115.ro 2 rfl).now (Keep.refl _ _)) x29 hr29) ?_
    intro _ w70 hv42
    obtain ⟨rfl, hB52⟩ := res_bool hv42
    have hC117 := hC115.grow hB52
    refine WL_pick_t rfl rfl rfl ?_
    refine WL_move rfl rfl ?_
    refine WL_fork (fun hc20 => ?_) (fun hc20 => ?_)
    ·replace hr28 := ite_t hr28 hc20
     refine WL_guard rfl rfl ?_
     refine WL_field Try.underlying26 rfl rfl (fun w => ⟨_, Try.sizeOf3 w⟩) rfl rfl ?_
     refine WL_guard rfl rfl ?_
     refine WL_load_box hC117 4 rfl rfl Try.isAgg3 rfl rfl ?_
     refine WL_guard rfl rfl ?_
     refine WL_field Try.underlying26 rfl rfl (fun w => ⟨_, Try.sizeOf3 w⟩) rfl rfl ?_
     refine WL_guard rfl rfl ?_
     refine WL_load_box hC117 1 rfl rfl Try.isAgg3 rfl rfl ?_
     refine WL_guard rfl rfl ?_
     refine WL_eql rfl rfl rfl ?_
     refine WL_pick_t rfl rfl rfl ?_
     refine WL_move rfl rfl ?_
     refine WL_fork (fun hc21 => ?_) (fun hc21 => ?_)
     ·replace hr28 := ite_t hr28 hc21
      refine WL_guard rfl rfl ?_
      refine WL_field Try.underlying26 rfl rfl (fun w => ⟨_, Try.sizeOf3 w⟩) rfl rfl ?_
      refine WL_guard rfl rfl ?_
      refine WL_load_box hC117 4 rfl rfl Try.isAgg3 rfl rfl ?_
      refine WL_guard rfl rfl ?_
      refine WL_field Try.underlying26 rfl rfl (fun w => ⟨_, Try.sizeOf3 w⟩) rfl rfl ?_
      refine WL_guard rfl rfl ?_
      refine WL_load_box hC117 1 rfl rfl Try.isAgg3 rfl rfl ?_
      refine WL_guard rfl rfl ?_
      refine WL_eql rfl rfl rfl ?_
      refine WL_pick_t rfl rfl rfl ?_
      refine WL_move rfl rfl ?_
      refine WL_fork (fun hc22 => ?_) (fun hc22 => ?_)
      ·replace hr28 := ite_t hr28 hc22
       refine WL_guard rfl rfl ?_
       refine WL_move rfl rfl ?_
       obtain ⟨x30, hr30, hr28⟩ := bind_some hr28
       refine WL_guard rfl rfl ?_
       refine WL_call Try.call34 rfl rfl (c_M_WaitBefore x27 x30 hr30) ?_
       intro _ w71 hv43
       obtain ⟨rfl, hB53⟩ := res_int hv43
       have hC118 := hC117.grow hB53
       refine WL_guard rfl rfl ?_
       refine WL_move rfl rfl ?_
       obtain ⟨x31, hr31, hr28⟩ := bind_some hr28
       refine WL_guard rfl rfl ?_
       refine WL_call Try.call35 rfl rfl (c_S_WaitBefore x27 x31 hr31) ?_
       intro _ w72 hv44
       obtain ⟨rfl, hB54⟩ := res_int hv44
       have hC119 := hC118.grow hB54
       refine WL_guard rfl rfl ?_
       refine WL_eql rfl rfl rfl ?_
       refine WL_pick_t rfl rfl rfl ?_
       refine WL_move rfl rfl ?_
       refine WL_fork (fun hc23 => ?_) (fun hc23 => ?_)
       ·replace hr28 := ite_t hr28 hc23
        refine WL_guard rfl rfl ?_
        refine WL_move rfl rfl ?_
        obtain ⟨x32, hr32, hr28⟩ := bind_some hr28
        refine WL_guard rfl rfl ?_
        refine WL_call Try.call34 rfl rfl (c_M_WaitBefore x27 x32 hr32) ?_
        intro _ w73 hv45
        obtain ⟨rfl, hB55⟩ := res_int hv45
        have hC120 := hC119.grow hB55
        refine WL_guard rfl rfl ?_
        refine WL_move rfl rfl ?_
        refine WL_guard rfl rfl ?_
        refine WL_add rfl rfl rfl ?_
        obtain ⟨x33, hr33, hr28⟩ := bind_some hr28
        refine WL_guard rfl rfl ?_
        refine WL_call Try.call34 rfl rfl (c_M_WaitBefore (w64 (x27 + 1)) x33 hr33) ?_
        intro _ w74 hv46
        obtain ⟨rfl, hB56⟩ := res_int hv46
        have hC121 := hC120.grow hB56
        refine WL_guard rfl rfl ?_
        refine WL_leq rfl rfl rfl ?_
        refine WL_pick_t rfl rfl rfl ?_
        refine WL_assign rfl rfl ?_
        refine WL_nil ?_
        have hq21 := Option.some.inj hr28
        subst hq21
        have hC122 := hC121.h0
        refine nrm_sub (l' := [(2, (.bool (decide (x32 ≤ x33))))]) ⟨rfl, trivial⟩ ?_
        exact ⟨(decide (x32 ≤ x33)), rfl, rfl, (((((Keep.of hB52).then hB53).then hB54).then hB55).then hB56).below, hC122⟩
       replace hr28 := ite_f hr28 hc23
       refine WL_guard_skip rfl rfl (by simp) rfl ?_
       refine WL_guard_skip rfl rfl (by simp) rfl ?_
       refine WL_guard_skip rfl rfl (by simp) rfl ?_
       refine WL_guard_skip rfl rfl (by simp) rfl ?_
       refine WL_guard_skip rfl rfl (by simp) rfl ?_
       refine WL_guard_skip rfl rfl (by simp) rfl ?_
       refine WL_pick_f rfl rfl rfl ?_
       refine WL_assign rfl rfl ?_
       refine WL_nil ?_
       have hq22 := Option.some.inj hr28
       subst hq22
       have hC123 := hC119.h0
       refine nrm_sub (l' := [(2, (.bool false))]) ⟨rfl, trivial⟩ ?_
       exact ⟨false, rfl, rfl, (((Keep.of hB52).then hB53).then hB54).below, hC123⟩
      replace hr28 := ite_f hr28 hc22
      refine WL_guard_skip rfl rfl (by simp) rfl ?_
      refine WL_guard_skip rfl rfl (by simp) rfl ?_
      refine WL_guard_skip rfl rfl (by simp) rfl ?_
      refine WL_guard_skip rfl rfl (by simp) rfl ?_
      refine WL_guard_skip rfl rfl (by simp) rfl ?_
      refine WL_pick_f rfl rfl rfl ?_
      refine WL_move rfl rfl ?_
      refine WL_guard_skip rfl rfl (by simp) rfl ?_
      refine WL_guard_skip rfl rfl (by simp) rfl ?_
      refine WL_guard_skip rfl rfl (by simp) rfl ?_
      refine WL_guard_skip rfl rfl (by simp) rfl ?_
      refine WL_guard_skip rfl rfl (by simp) rfl ?_
      refine WL_guard_skip rfl rfl (by simp) rfl ?_
      refine WL_pick_f rfl rfl rfl ?_
      refine WL_assign rfl rfl ?_
      refine WL_nil ?_
      have hq23 := Option.some.inj hr28
      subst hq23
      have hC124 := hC117.h0
      refine nrm_sub (l' := [(2, (.bool false))]) ⟨rfl, trivial⟩ ?_
      exact ⟨false, rfl, rfl, (Keep.of hB52).below, hC124⟩
     replace hr28 := ite_f hr28 hc21
     refine WL_guard_skip rfl rfl (by simp) rfl ?_
     refine WL_guard_skip rfl rfl (by simp) rfl ?_
     refine WL_guard_skip rfl rfl (by simp) rfl ?_
     refine WL_guard_skip rfl rfl (by simp) rfl ?_
     refine WL_guard_skip rfl rfl (by simp) rfl ?_
     refine WL_pick_f rfl rfl rfl ?_
     refine WL_move rfl rfl ?_
     refine WL_guard_skip rfl rfl (by simp) rfl ?_
     refine WL_guard_skip rfl rfl (by simp) rfl ?_
     refine WL_guard_skip rfl rfl (by simp) rfl ?_
     refine WL_guard_skip rfl rfl (by simp) rfl ?_
     refine WL_guard_skip rfl rfl (by simp) rfl ?_
     refine WL_pick_f rfl rfl rfl ?_
     refine WL_move rfl rfl ?_
     refine WL_guard_skip rfl rfl (by simp) rfl ?_
     refine WL_guard_skip rfl rfl (by simp) rfl ?_
     refine WL_guard_skip rfl rfl (by simp) rfl ?_
     refine WL_guard_skip rfl rfl (by simp) rfl ?_
     refine WL_guard_skip rfl rfl (by simp) rfl ?_
     refine WL_guard_skip rfl rfl (by simp) rfl ?_
     refine WL_pick_f rfl rfl rfl ?_
     refine WL_assign rfl rfl ?_
     refine WL_nil ?_
     have hq24 := Option.some.inj hr28
     subst hq24
     have hC125 := hC117.h0
     refine nrm_sub (l' := [(2, (.bool false))]) ⟨rfl, trivial⟩ ?_
     exact ⟨false, rfl, rfl, (Keep.of hB52).below, hC125⟩
    replace hr28 := ite_f hr28 hc20
    refine WL_guard_skip rfl rfl (by simp) rfl ?_
    refine WL_guard_skip rfl rfl (by simp) rfl ?_
    refine WL_guard_skip rfl rfl (by simp) rfl ?_
    refine WL_guard_skip rfl rfl (by simp) rfl ?_
    refine WL_guard_skip rfl rfl (by simp) rfl ?_
    refine WL_pick_f rfl rfl rfl ?_
    refine WL_move rfl rfl ?_
    refine WL_guard_skip rfl rfl (by simp) rfl ?_
    refine WL_guard_skip rfl rfl (by simp) rfl ?_
    refine WL_guard_skip rfl rfl (by simp) rfl ?_
    refine WL_guard_skip rfl rfl (by simp) rfl ?_
    refine WL_guard_skip rfl rfl (by simp) rfl ?_
    refine WL_pick_f rfl rfl rfl ?_
    refine WL_move rfl rfl ?_
    refine WL_guard_skip rfl rfl (by simp) rfl ?_
    refine WL_guard_skip rfl rfl (by simp) rfl ?_
    refine WL_guard_skip rfl rfl (by simp) rfl ?_
    refine WL_guard_skip rfl rfl (by simp) rfl ?_
    refine WL_guard_skip rfl rfl (by simp) rfl ?_
    refine WL_pick_f rfl rfl rfl ?_
    refine WL_move rfl rfl ?_
    refine WL_guard_skip rfl rfl (by simp) rfl ?_
    refine WL_guard_skip rfl rfl (by simp) rfl ?_
    refine WL_guard_skip rfl rfl (by simp) rfl ?_
    refine WL_guard_skip rfl rfl (by simp) rfl ?_
    refine WL_guard_skip rfl rfl (by simp) rfl ?_
    refine WL_guard_skip rfl rfl (by simp) rfl ?_
    refine WL_pick_f rfl rfl rfl ?_
    refine WL_assign rfl rfl ?_
    refine WL_nil ?_
    have hq25 := Option.some.inj hr28
    subst hq25
    have hC126 := hC117.h0
    refine nrm_sub (l' := [(2, (.bool false))]) ⟨rfl, trivial⟩ ?_
    exact ⟨false, rfl, rfl, (Keep.of hB52).below, hC126⟩
   replace hr28 := ite_f hr28 hc19
   refine WL_guard_skip rfl rfl (by simp) rfl ?_
   refine WL_guard_skip rfl rfl (by simp) rfl ?_
   refine WL_guard_skip rfl rfl (by simp) rfl ?_
   refine WL_guard_skip rfl rfl (by simp) rfl ?_
   refine WL_guard_skip rfl rfl (by simp) rfl ?_
   refine WL_pick_f rfl rfl rfl ?_
   refine WL_move rfl rfl ?_
   refine WL_guard_skip rfl rfl (by simp) rfl ?_
   refine WL_guard_skip rfl rfl (by simp) rfl ?_
   refine WL_guard_skip rfl rfl (by simp) rfl ?_
   refine WL_guard_skip rfl rfl (by simp) rfl ?_
   refine WL_guard_skip rfl rfl (by simp) rfl ?_
   refine WL_pick_f rfl rfl rfl ?_
   refine WL_move rfl rfl ?_
   refine WL_guard_skip rfl rfl (by simp) rfl ?_
   refine WL_guard_skip rfl rfl (by simp) rfl ?_
   refine WL_guard_skip rfl rfl (by simp) rfl ?_
   refine WL_guard_skip rfl rfl (by simp) rfl ?_
   refine WL_guard_skip rfl rfl (by simp) rfl ?_
   refine WL_pick_f rfl rfl rfl ?_
   refine WL_move rfl rfl ?_
   refine WL_guard_skip rfl rfl (by simp) rfl ?_
   refine WL_guard_skip rfl rfl (by simp) rfl ?_
   refine WL_guard_skip rfl rfl (by simp) rfl ?_
   refine WL_guard_skip rfl rfl (by simp) rfl ?_
   refine WL_guard_skip rfl rfl (by simp) rfl ?_
   refine WL_pick_f rfl rfl rfl ?_
   refine WL_move rfl rfl ?_
   refine WL_guard_skip rfl rfl (by simp) rfl ?_
   refine WL_guard_skip rfl rfl (by simp) rfl ?_
   refine WL_guard_skip rfl rfl (by simp) rfl ?_
   refine WL_guard_skip rfl rfl (by simp) rfl ?_
   refine WL_guard_skip rfl rfl (by simp) rfl ?_
   refine WL_guard_skip rfl rfl (by simp) rfl ?_
   refine WL_pick_f rfl rfl rfl ?_
   refine WL_assign rfl rfl ?_
   refine WL_nil ?_
   have hq26 := Option.some.inj hr28
   subst hq26
   have hC127 := hC115.h0
   refine nrm_sub (l' := [(2, (.bool false))]) ⟨rfl, trivial⟩ ?_
   exact ⟨false, rfl, rfl, (Below.refl _ _), hC127⟩
  replace hr28 := ite_f hr28 hc18
  refine WL_guard_skip rfl rfl (by simp) rfl ?_
  refine WL_guard_skip rfl rfl (by simp) rfl ?_
  refine WL_guard_skip rfl rfl (by simp) rfl ?_
  refine WL_pick_f rfl rfl rfl ?_
  refine WL_move rfl rfl ?_
  refine WL_guard_skip rfl rfl (by simp) rfl ?_
  refine WL_guard_skip rfl rfl (by simp) rfl ?_
  refine WL_guard_skip rfl rfl (by simp) rfl ?_
  refine WL_guard_skip rfl rfl (by simp) rfl ?_
  refine WL_guard_skip rfl rfl (by simp) rfl ?_
  refine WL_pick_f rfl rfl rfl ?_
  refine WL_move rfl rfl ?_
  refine WL_guard_skip rfl rfl (by simp) rfl ?_
  refine WL_guard_skip rfl rfl (by simp) rfl ?_
  refine WL_guard_skip rfl rfl (by simp) rfl ?_
  refine WL_guard_skip rfl rfl (by simp) rfl ?_
  refine WL_guard_skip rfl rfl (by simp) rfl ?_
  refine WL_pick_f rfl rfl rfl ?_
  refine WL_move rfl rfl ?_
  refine WL_guard_skip rfl rfl (by simp) rfl ?_
  refine WL_guard_skip rfl rfl (by simp) rfl ?_
  refine WL_guard_skip rfl rfl (by simp) rfl ?_
  refine WL_guard_skip rfl rfl (by simp) rfl ?_
  refine WL_guard_skip rfl rfl (by simp) rfl ?_
  refine WL_pick_f rfl rfl rfl ?_
  refine WL_move rfl rfl ?_
  refine WL_guard_skip rfl rfl (by simp) rfl ?_
  refine WL_guard_skip rfl rfl (by simp) rfl ?_
  refine WL_guard_skip rfl rfl (by simp) rfl ?_
  refine WL_guard_skip rfl rfl (by simp) rfl ?_
  refine WL_guard_skip rfl rfl (by simp) rfl ?_
  refine WL_pick_f rfl rfl rfl ?_
  refine WL_move rfl rfl ?_
  refine WL_guard_skip rfl rfl (by simp) rfl ?_
  refine WL_guard_skip rfl rfl (by simp) rfl ?_
  refine WL_guard_skip rfl rfl (by simp) rfl ?_
  refine WL_guard_skip rfl rfl (by simp) rfl ?_
  refine WL_guard_skip rfl rfl (by simp) rfl ?_
  refine WL_guard_skip rfl rfl (by simp) rfl ?_
  refine WL_pick_f rfl rfl rfl ?_
  refine WL_assign rfl rfl ?_
  refine WL_nil ?_
  have hq27 := Option.some.inj hr28
  subst hq27
  have hC128 := hC115.h0
  refine nrm_sub (l' := [(2, (.bool false))]) ⟨rfl, trivial⟩ ?_
  exact ⟨false, rfl, rfl, (Below.refl _ _), hC128⟩
 rintro _ w69 ⟨x28, rfl, rfl, hB51, hC116⟩
 try dsimp only at hF
 refine W_ret ?_
 have hq28 := Option.some.inj hF
 subst hq28
 refine fn_ret1 rfl rfl ?_
 exact ⟨_, rfl, bool_res hC116 _⟩

end Go.Gx.Px
