/- The contracts of the Go functions against the pure functions, printed by program. Conditions: each says them. -/
import Derived.Test.YtnjjpmilcajmkaaC3
set_option linter.unusedVariables false
set_option linter.unusedSimpArgs false
set_option maxRecDepth 100000
set_option maxHeartbeats 4000000
namespace Go.Gx.Px
open Go.Proofs Go.RowKit

theorem c_Q_FnExactReceiveCall {w0 : World} (a1 : ((List Int) × Int × Int)) (u1 : Value) (g1 : RO [] w0 u1 a1.1) (a2 : Int) (a3 : Int) (rr : Bool) (hF : Q.FnExactReceiveCall a1 a2 a3 = some rr) :
 Calls Try.prog 3 [(.agg #[u1, (.int .i64 a1.2.1), (.int .i64 a1.2.2)]), (.int .i64 a2), (.int .i64 a3)].toArray w0 fun e w' => ∃ v, e = .returned v ∧ Res w0 rr v w' := by
 refine calls_of_W Try.func3 rfl rfl ?_
 have hC0 := Ctx.start w0
 unfold Q.FnExactReceiveCall at hF
 refine W_seq_reg ?_
 refine WL_box (cs := [u1, (.int .i64 a1.2.1), (.int .i64 a1.2.2)]) hC0 rfl rfl rfl (fun b1 w1 hC1 hB1 => ?_)
 refine WL_assign rfl rfl ?_
 refine WL_nil ?_
 refine W_seq_reg ?_
 refine WL_assign rfl rfl ?_
 refine WL_nil ?_
 refine W_seq_reg ?_
 refine WL_load_box_agg [u1, (.int .i64 a1.2.1), (.int .i64 a1.2.2)] hC1 0 rfl rfl rfl Try.isAgg24 Try.sizeOf24 rfl rfl ?_
 refine WL_move rfl rfl ?_
 obtain ⟨x1, hr1, hF⟩ := bind_some hF
 refine WL_call Try.call15 rfl rfl (c_Q_szLedger (a1.1, a1.2.1, a1.2.2) u1 (g1.now hC1.keep) 1048576 x1 hr1) ?_
 intro _ w2 hv1
 obtain ⟨rfl, hB2⟩ := res_int hv1
 have hC2 := hC1.grow hB2
 refine WL_assign rfl rfl ?_
 refine WL_nil ?_
 refine W_seq ?_
 refine W_seq_reg ?_
 refine WL_move rfl rfl ?_
 refine WL_lss rfl rfl rfl ?_
 refine WL_nil ?_
 refine W_cond rfl (fun hc1 => ?_) (fun hc1 => ?_)
 ·replace hF := ite_t hF hc1
  refine W_seq_reg ?_
  refine WL_assign rfl rfl ?_
  refine WL_nil ?_
  refine W_ret ?_
  refine nrm_ret ?_
  have hq1 := Option.some.inj hF
  subst hq1
  refine fn_ret1 rfl rfl ?_
  exact ⟨_, rfl, bool_res hC2 _⟩
 replace hF := ite_f hF hc1
 refine W_skip ?_
 refine nrm_normal ?_
 refine W_seq_reg ?_
 refine WL_load_box_agg [u1, (.int .i64 a1.2.1), (.int .i64 a1.2.2)] hC2 0 rfl rfl rfl Try.isAgg24 Try.sizeOf24 rfl rfl ?_
 obtain ⟨x2, hr2, hF⟩ := bind_some hF
 refine WL_call Try.call17 rfl rfl (c_Q_toLedger (a1.1, a1.2.1, a1.2.2) u1 (g1.now hC2.keep) x2 hr2) ?_
 rintro v1 w3 ⟨hB3, F1, hv2, hn1, hb1⟩
 have hC3 := hC2.push hB3 (A := Item.own v1 x2) hv2 hn1 hb1
 obtain ⟨v2, rfl, hC4⟩ := st26_own hC3
 refine WL_move rfl rfl ?_
 refine WL_move rfl rfl ?_
 obtain ⟨x3, hr3, hF⟩ := bind_some hF
 refine WL_call Try.call16 rfl rfl (c_S_ReceiveCall x2 v2 ((hC4.ro 0 rfl).now (Keep.refl _ _)) a2 a3 x3 hr3) ?_
 rintro _ w4 ⟨hB4, v3, v4, F2, F3, rfl, hv3, hv4, hn2, hb2⟩
 obtain ⟨rfl, rfl⟩ := val_bool hv4
 have hC5 := hC4.pushL hB4 (Bs := [Item.own v3 x3.1]) (Fs := [F2]) ⟨F2, _, rfl, hv3, rfl⟩ (by simpa using hn2) (fun b h => hb2 b (by simpa using h))
 obtain ⟨v5, rfl, hC6⟩ := st26_own hC5
 refine WL_move rfl rfl ?_
 refine WL_extract rfl rfl rfl ?_
 refine WL_extract rfl rfl rfl ?_
 refine WL_alloc hC6 zero26 rfl rfl (fun b2 w5 hC7 hB5 => ?_)
 refine WL_store_box_agg (cs' := [v5, (.int .i64 x3.1.2.1), (.int .i64 x3.1.2.2)]) (new := [v5, (.int .i64 x3.1.2.1), (.int .i64 x3.1.2.2)]) hC7 0 rfl rfl (by intro v hv; simp only [List.mem_cons, List.not_mem_nil, or_false] at hv; rcases hv with rfl | rfl | rfl; exact (ro_one (hC7.ro 1 rfl)); exact rfl; exact rfl) rfl Try.sizeOf26 rfl rfl (fun w6 hC8 => ?_)
 try dsimp only [List.set] at hC8
 refine WL_assign rfl rfl ?_
 refine WL_nil ?_
 refine W_seq_reg ?_
 refine WL_load_box_agg [u1, (.int .i64 a1.2.1), (.int .i64 a1.2.2)] hC8 3 rfl rfl rfl Try.isAgg24 Try.sizeOf24 rfl rfl ?_
 obtain ⟨x4, hr4, hF⟩ := bind_some hF
 refine WL_call Try.call17 rfl rfl (c_Q_toLedger (a1.1, a1.2.1, a1.2.2) u1 (g1.now hC8.keep) x4 hr4) ?_
 rintro v6 w7 ⟨hB6, F4, hv5, hn3, hb3⟩
 have hC9 := hC8.push hB6 (A := Item.own v6 x4) hv5 hn3 hb3
 obtain ⟨v7, rfl, hC10⟩ := st26_own hC9
 refine WL_alloc hC10 zero26 rfl rfl (fun b3 w9 hC11 hB7 => ?_)
 refine WL_store_box_agg (cs' := [v7, (.int .i64 x4.2.1), (.int .i64 x4.2.2)]) (new := [v7, (.int .i64 x4.2.1), (.int .i64 x4.2.2)]) hC11 0 rfl rfl (by intro v hv; simp only [List.mem_cons, List.not_mem_nil, or_false] at hv; rcases hv with rfl | rfl | rfl; exact (ro_one (hC11.ro 1 rfl)); exact rfl; exact rfl) rfl Try.sizeOf26 rfl rfl (fun w10 hC12 => ?_)
 try dsimp only [List.set] at hC12
 refine WL_nil ?_
 refine W_seq_reg ?_
 refine WL_load_box_agg [v7, (.int .i64 x4.2.1), (.int .i64 x4.2.2)] hC12 0 rfl rfl rfl Try.isAgg26 Try.sizeOf26 rfl rfl ?_
 refine WL_move rfl rfl ?_
 refine WL_move rfl rfl ?_
 obtain ⟨x5, hr5, hF⟩ := bind_some hF
 refine WL_call Try.call18 rfl rfl (c_M_ReceiveCall (x4.1, x4.2.1, x4.2.2) v7 ((hC12.ro 1 rfl).now (Keep.refl _ _)) a2 a3 x5 hr5) ?_
 rintro _ w11 ⟨hB8, v8, v9, F5, F6, rfl, hv6, hv7, hn4, hb4⟩
 obtain ⟨rfl, rfl⟩ := val_bool hv7
 have hC13 := hC12.pushL hB8 (Bs := [Item.own v8 x5.1]) (Fs := [F5]) ⟨F5, _, rfl, hv6, rfl⟩ (by simpa using hn4) (fun b h => hb4 b (by simpa using h))
 obtain ⟨v10, rfl, hC14⟩ := st26_own hC13
 refine WL_move rfl rfl ?_
 refine WL_extract rfl rfl rfl ?_
 refine WL_extract rfl rfl rfl ?_
 refine WL_alloc hC14 zero26 rfl rfl (fun b4 w12 hC15 hB9 => ?_)
 refine WL_store_box_agg (cs' := [v10, (.int .i64 x5.1.2.1), (.int .i64 x5.1.2.2)]) (new := [v10, (.int .i64 x5.1.2.1), (.int .i64 x5.1.2.2)]) hC15 0 rfl rfl (by intro v hv; simp only [List.mem_cons, List.not_mem_nil, or_false] at hv; rcases hv with rfl | rfl | rfl; exact (ro_one (hC15.ro 1 rfl)); exact rfl; exact rfl) rfl Try.sizeOf26 rfl rfl (fun w13 hC16 => ?_)
 try dsimp only [List.set] at hC16
 refine WL_assign rfl rfl ?_
 refine WL_nil ?_
 refine W_seq ?_
 obtain ⟨r1, hr6, hF⟩ := bind_some hF
 refine W_cut (fun l w => ∃ x6 : Bool, x6 = r1 ∧ l = [(1, (.int .i64 a2)), (2, (.int .i64 a3)), (3, (ptr b1 0)), (8, (ptr b2 0)), (9, (.bool x3.2)), (10, (ptr b3 0)), (11, (ptr b4 0)), (12, (.bool x5.2)), (48, (.bool x6))] ∧ Below w13.heap.size w13 w ∧ Ctx [] w0 w [Item.box b4 [v10, (.int .i64 x5.1.2.1), (.int .i64 x5.1.2.2)], Item.own v10 (x5.1.1 : (List Int)), Item.box b3 [v7, (.int .i64 x4.2.1), (.int .i64 x4.2.2)], Item.own v7 (x4.1 : (List Int)), Item.box b2 [v5, (.int .i64 x3.1.2.1), (.int .i64 x3.1.2.2)], Item.own v5 (x3.1.1 : (List Int)), Item.box b1 [u1, (.int .i64 a1.2.1), (.int .i64 a1.2.2)]]) ?_ ?_
 ·refine W_reg ?_
  refine WL_load_box_agg [v10, (.int .i64 x5.1.2.1), (.int .i64 x5.1.2.2)] hC16 0 rfl rfl rfl Try.isAgg26 Try.sizeOf26 rfl rfl ?_
  refine WL_load_box_agg [v5, (.int .i64 x3.1.2.1), (.int .i64 x3.1.2.2)] hC16 4 rfl rfl rfl Try.isAgg26 Try.sizeOf26 rfl rfl ?_
  obtain ⟨x7, hr7, hr6⟩ := bind_some hr6
  refine WL_call Try.call19 rfl rfl (c_Q_eqLedger (x5.1.1, x5.1.2.1, x5.1.2.2) v10 ((hC16.ro 1 rfl).now (Keep.refl _ _)) (x3.1.1, x3.1.2.1, x3.1.2.2) v5 ((hC16.ro 5 rfl).now (Keep.refl _ _)) x7 hr7) ?_
  intro _ w15 hv8
  obtain ⟨rfl, hB11⟩ := res_bool hv8
  have hC18 := hC16.grow hB11
  refine WL_not rfl rfl ?_
  refine WL_move rfl rfl ?_
  refine WL_fork (fun hc2 => ?_) (fun hc2 => ?_)
  ·replace hr6 := ite_t hr6 hc2
   refine WL_guard_skip rfl rfl (by simp) rfl ?_
   refine WL_guard_skip rfl rfl (by simp) rfl ?_
   refine WL_guard_skip rfl rfl (by simp) rfl ?_
   refine WL_pick_t rfl rfl rfl ?_
   refine WL_nil ?_
   have hq2 := Option.some.inj hr6
   subst hq2
   have hC19 := hC18.f7
   have hC20 := hC19.f6
   have hC21 := hC20.f6
   have hC22 := hC21.f6
   have hC23 := hC22.f6
   have hC24 := hC23.f6
   have hC25 := hC24.f6
   have hC26 := hC25.h7
   refine nrm_sub (l' := [(1, (.int .i64 a2)), (2, (.int .i64 a3)), (3, (ptr b1 0)), (8, (ptr b2 0)), (9, (.bool x3.2)), (10, (ptr b3 0)), (11, (ptr b4 0)), (12, (.bool x5.2)), (48, (.bool true))]) ⟨rfl, rfl, rfl, rfl, rfl, rfl, rfl, rfl, rfl, trivial⟩ ?_
   exact ⟨true, rfl, rfl, (Keep.of hB11).below, hC26⟩
  replace hr6 := ite_f hr6 hc2
  refine WL_guard rfl rfl ?_
  refine WL_move rfl rfl ?_
  refine WL_guard rfl rfl ?_
  refine WL_move rfl rfl ?_
  refine WL_guard rfl rfl ?_
  refine WL_bool_neq Try.underlying4 rfl rfl rfl ?_
  refine WL_pick_f rfl rfl rfl ?_
  refine WL_nil ?_
  have hq3 := Option.some.inj hr6
  subst hq3
  have hC27 := hC18.f7
  have hC28 := hC27.f6
  have hC29 := hC28.f6
  have hC30 := hC29.f6
  have hC31 := hC30.f6
  have hC32 := hC31.f6
  have hC33 := hC32.f6
  have hC34 := hC33.h7
  refine nrm_sub (l' := [(1, (.int .i64 a2)), (2, (.int .i64 a3)), (3, (ptr b1 0)), (8, (ptr b2 0)), (9, (.bool x3.2)), (10, (ptr b3 0)), (11, (ptr b4 0)), (12, (.bool x5.2)), (48, (.bool (!decide (x5.2 = x3.2))))]) ⟨rfl, rfl, rfl, rfl, rfl, rfl, rfl, rfl, rfl, trivial⟩ ?_
  exact ⟨(!decide (x5.2 = x3.2)), rfl, rfl, (Keep.of hB11).below, hC34⟩
 rintro _ w14 ⟨x6, rfl, rfl, hB10, hC17⟩
 try dsimp only at hF
 refine W_cond rfl (fun hc3 => ?_) (fun hc3 => ?_)
 ·replace hF := ite_t hF hc3
  refine W_seq_reg ?_
  refine WL_assign rfl rfl ?_
  refine WL_nil ?_
  refine W_ret ?_
  refine nrm_ret ?_
  have hq4 := Option.some.inj hF
  subst hq4
  refine fn_ret1 rfl rfl ?_
  exact ⟨_, rfl, bool_res hC17 _⟩
 replace hF := ite_f hF hc3
 refine W_skip ?_
 refine nrm_normal ?_
 refine W_seq ?_
 refine W_seq ?_
 refine W_drawn 5 rfl hmix (fun w16 hB12 => ?_)
 have hC35 := hC17.grow hB12
 obtain ⟨x8, hr8, hF⟩ := bind_some hF
 refine WA.sub (l' := [(1, (.int .i64 a2)), (2, (.int .i64 a3)), (3, (ptr b1 0)), (8, (ptr b2 0)), (9, (.bool x3.2)), (10, (ptr b3 0)), (11, (ptr b4 0)), (12, (.bool x5.2)), (48, (.bool x6))]) ?_ ⟨rfl, rfl, rfl, rfl, rfl, rfl, rfl, rfl, rfl, trivial⟩
 refine WA_postsE [⟨0, [], fun vs => PW.val (.agg #[v7, (.int .i64 x4.2.1), (.int .i64 x4.2.2)]), []⟩, ⟨1, [], fun vs => PW.val (.agg #[u1, (.int .i64 a1.2.1), (.int .i64 a1.2.2)]), []⟩, ⟨2, [], fun vs => PW.own x8, []⟩] [[], [], [1]] 2 rfl (by kernel_rfl) (by kernel_rfl) rfl ?_ ?_
 ·refine StepsE_cons rfl ?_ ?_
  ·intro w18 hB14
   refine DepsE_nil ?_
   refine ⟨_, rfl, ?_⟩
   refine WL_load_box_agg [v7, (.int .i64 x4.2.1), (.int .i64 x4.2.2)] (hC35.grow hB14) 2 rfl rfl rfl Try.isAgg26 Try.sizeOf26 rfl rfl ?_
   refine WL_nil ?_
   exact FinE_val (Below.refl _ _) rfl rfl ⟨rfl, rfl⟩
  refine StepsE_cons rfl ?_ ?_
  ·intro w18 hB14
   refine DepsE_nil ?_
   refine ⟨_, rfl, ?_⟩
   refine WL_load_box_agg [u1, (.int .i64 a1.2.1), (.int .i64 a1.2.2)] (hC35.grow hB14) 6 rfl rfl rfl Try.isAgg24 Try.sizeOf24 rfl rfl ?_
   refine WL_nil ?_
   exact FinE_val (Below.refl _ _) rfl rfl ⟨rfl, rfl⟩
  refine StepsE_cons rfl ?_ ?_
  ·intro w18 hB14
   refine DepsE_cons rfl rfl rfl ?_
   rintro _ _ ⟨rfl, rfl⟩ _
   refine DepsE_nil ?_
   refine ⟨_, rfl, ?_⟩
   refine WL_call Try.call17 rfl rfl (c_Q_toLedger (a1.1, a1.2.1, a1.2.2) u1 (g1.now (hC35.keep.then hB14)) x8 hr8) ?_
   rintro v11 w17 ⟨hB13, F7, hv9, hn5, hb5⟩
   refine WL_nil ?_
   exact FinE_own hB13 rfl rfl hv9 hn5 hb5 (Val.inh hv9)
  exact StepsE_nil
 intro w19 hB15
 refine AllE_cons rfl rfl rfl ?_
 rintro _ _ ⟨rfl, rfl⟩
 refine AllE_cons rfl rfl rfl ?_
 rintro _ _ ⟨rfl, rfl⟩
 refine AllE_cons rfl rfl rfl ?_
 intro v11 F7 hv9
 refine AllE_nil ?_
 intro hn6 hb6
 have hC36 := hC35.pushL hB15 (Bs := [Item.own v11 (x8 : ((List Int) × Int × Int))]) (Fs := [F7]) ⟨F7, _, rfl, hv9, rfl⟩ (by simpa using hn6) (fun b h => (hb6 b (by simpa using h)).1)
 obtain ⟨v13, rfl, hC37⟩ := st26_own hC36
 obtain ⟨x9, hr9, hF⟩ := bind_some hF
 refine WA_one 3 (by kernel_rfl) rfl ?_
 refine WL_call Try.call19 rfl rfl (c_Q_eqLedger (x4.1, x4.2.1, x4.2.2) v7 ((hC37.ro 4 rfl).now (Keep.refl _ _)) x8 v13 ((hC37.ro 0 rfl).now (Keep.refl _ _)) x9 hr9) ?_
 intro _ w20 hv10
 obtain ⟨rfl, hB16⟩ := res_bool hv10
 have hC38 := hC37.grow hB16
 refine WL_nil ?_
 refine WA_tk 4 (by kernel_rfl) rfl rfl (fl_not rfl) ?_
 refine WL_not rfl rfl ?_
 refine WL_nil ?_
 refine WA_done (by kernel_rfl) ?_
 refine nrm_normal ?_
 refine W_cond rfl (fun hc4 => ?_) (fun hc4 => ?_)
 ·replace hF := ite_t hF hc4
  refine W_seq_reg ?_
  refine WL_assign rfl rfl ?_
  refine WL_nil ?_
  refine W_ret ?_
  refine nrm_ret ?_
  have hq5 := Option.some.inj hF
  subst hq5
  refine fn_ret1 rfl rfl ?_
  exact ⟨_, rfl, bool_res hC38 _⟩
 replace hF := ite_f hF hc4
 refine W_skip ?_
 refine nrm_normal ?_
 refine W_seq_reg ?_
 refine WL_assign rfl rfl ?_
 refine WL_nil ?_
 refine W_seq_reg ?_
 refine WL_load_box_agg [v7, (.int .i64 x4.2.1), (.int .i64 x4.2.2)] hC38 3 rfl rfl rfl Try.isAgg26 Try.sizeOf26 rfl rfl ?_
 refine WL_move rfl rfl ?_
 obtain ⟨x10, hr10, hF⟩ := bind_some hF
 have hC39 := hC38.f4
 obtain ⟨Fs1, hH1, hn7, hF1, hO1, hb7⟩ := Ctx.lend2 (As := [Item.own v13 (x8.1 : (List Int)), Item.box b4 [v10, (.int .i64 x5.1.2.1), (.int .i64 x5.1.2.2)], Item.own v10 (x5.1.1 : (List Int)), Item.box b3 [v7, (.int .i64 x4.2.1), (.int .i64 x4.2.2)], Item.box b2 [v5, (.int .i64 x3.1.2.1), (.int .i64 x3.1.2.2)], Item.own v5 (x3.1.1 : (List Int)), Item.box b1 [u1, (.int .i64 a1.2.1), (.int .i64 a1.2.2)]]) [Item.own v7 (x4.1 : (List Int))] hC39
 refine WL_call Try.call20 rfl rfl (c_Q_markLedger (x4.1, x4.2.1, x4.2.2) v7 1 hH1 hn7 x10 hr10) ?_
 rintro _ w21 ⟨rfl, hq6⟩
 have hC40 : Ctx [] w0 w21 [Item.own v7 (x10.2.1 : (List Int)), Item.own v13 (x8.1 : (List Int)), Item.box b4 [v10, (.int .i64 x5.1.2.1), (.int .i64 x5.1.2.2)], Item.own v10 (x5.1.1 : (List Int)), Item.box b3 [v7, (.int .i64 x4.2.1), (.int .i64 x4.2.2)], Item.box b2 [v5, (.int .i64 x3.1.2.1), (.int .i64 x3.1.2.2)], Item.own v5 (x3.1.1 : (List Int)), Item.box b1 [u1, (.int .i64 a1.2.1), (.int .i64 a1.2.2)]] := hb7 _ _ hq6
 refine WL_assign rfl rfl ?_
 refine WL_nil ?_
 refine W_seq ?_
 obtain ⟨r2, hr11, hF⟩ := bind_some hF
 refine W_cut (fun l w => ∃ x11 : Bool, x11 = r2 ∧ l = [(1, (.int .i64 a2)), (2, (.int .i64 a3)), (3, (ptr b1 0)), (8, (ptr b2 0)), (9, (.bool x3.2)), (11, (ptr b4 0)), (69, (.bool x11))] ∧ Below w21.heap.size w21 w ∧ Ctx [] w0 w [Item.box b4 [v10, (.int .i64 x5.1.2.1), (.int .i64 x5.1.2.2)], Item.own v10 (x5.1.1 : (List Int)), Item.box b2 [v5, (.int .i64 x3.1.2.1), (.int .i64 x3.1.2.2)], Item.own v5 (x3.1.1 : (List Int)), Item.box b1 [u1, (.int .i64 a1.2.1), (.int .i64 a1.2.2)]]) ?_ ?_
 ·refine W_reg ?_
  refine WL_move rfl rfl ?_
  refine WL_lss rfl rfl rfl ?_
  refine WL_move rfl rfl ?_
  refine WL_fork (fun hc5 => ?_) (fun hc5 => ?_)
  ·replace hr11 := ite_t hr11 hc5
   refine WL_guard_skip rfl rfl (by simp) rfl ?_
   refine WL_guard_skip rfl rfl (by simp) rfl ?_
   refine WL_guard_skip rfl rfl (by simp) rfl ?_
   refine WL_guard_skip rfl rfl (by simp) rfl ?_
   refine WL_pick_t rfl rfl rfl ?_
   refine WL_move rfl rfl ?_
   refine WL_guard_skip rfl rfl (by simp) rfl ?_
   refine WL_guard_skip rfl rfl (by simp) rfl ?_
   refine WL_guard_skip rfl rfl (by simp) rfl ?_
   refine WL_pick_t rfl rfl rfl ?_
   refine WL_nil ?_
   have hq7 := Option.some.inj hr11
   subst hq7
   have hC42 := hC40.f7
   have hC43 := hC42.f7
   have hC44 := hC43.f7
   have hC45 := hC44.f6
   have hC46 := hC45.f6
   have hC47 := hC46.h5
   refine nrm_sub (l' := [(1, (.int .i64 a2)), (2, (.int .i64 a3)), (3, (ptr b1 0)), (8, (ptr b2 0)), (9, (.bool x3.2)), (11, (ptr b4 0)), (69, (.bool true))]) ⟨rfl, rfl, rfl, rfl, rfl, rfl, rfl, trivial⟩ ?_
   exact ⟨true, rfl, rfl, (Below.refl _ _), hC47⟩
  replace hr11 := ite_f hr11 hc5
  refine WL_guard rfl rfl ?_
  refine WL_load_box_agg [v10, (.int .i64 x5.1.2.1), (.int .i64 x5.1.2.2)] hC40 2 rfl rfl rfl Try.isAgg26 Try.sizeOf26 rfl rfl ?_
  refine WL_guard rfl rfl ?_
  refine WL_load_box_agg [v5, (.int .i64 x3.1.2.1), (.int .i64 x3.1.2.2)] hC40 5 rfl rfl rfl Try.isAgg26 Try.sizeOf26 rfl rfl ?_
  obtain ⟨x12, hr12, hr11⟩ := bind_some hr11
  refine WL_guard rfl rfl ?_
  refine WL_call Try.call19 rfl rfl (c_Q_eqLedger (x5.1.1, x5.1.2.1, x5.1.2.2) v10 ((hC40.ro 3 rfl).now (Keep.refl _ _)) (x3.1.1, x3.1.2.1, x3.1.2.2) v5 ((hC40.ro 6 rfl).now (Keep.refl _ _)) x12 hr12) ?_
  intro _ w23 hv11
  obtain ⟨rfl, hB18⟩ := res_bool hv11
  have hC48 := hC40.grow hB18
  refine WL_guard rfl rfl ?_
  refine WL_not rfl rfl ?_
  refine WL_pick_f rfl rfl rfl ?_
  refine WL_move rfl rfl ?_
  refine WL_fork (fun hc6 => ?_) (fun hc6 => ?_)
  ·replace hr11 := ite_t hr11 hc6
   refine WL_guard_skip rfl rfl (by simp) rfl ?_
   refine WL_guard_skip rfl rfl (by simp) rfl ?_
   refine WL_guard_skip rfl rfl (by simp) rfl ?_
   refine WL_pick_t rfl rfl rfl ?_
   refine WL_nil ?_
   have hq8 := Option.some.inj hr11
   subst hq8
   have hC49 := hC48.f7
   have hC50 := hC49.f7
   have hC51 := hC50.f7
   have hC52 := hC51.f6
   have hC53 := hC52.f6
   have hC54 := hC53.h5
   refine nrm_sub (l' := [(1, (.int .i64 a2)), (2, (.int .i64 a3)), (3, (ptr b1 0)), (8, (ptr b2 0)), (9, (.bool x3.2)), (11, (ptr b4 0)), (69, (.bool true))]) ⟨rfl, rfl, rfl, rfl, rfl, rfl, rfl, trivial⟩ ?_
   exact ⟨true, rfl, rfl, (Keep.of hB18).below, hC54⟩
  replace hr11 := ite_f hr11 hc6
  refine WL_guard rfl rfl ?_
  refine WL_move rfl rfl ?_
  refine WL_guard rfl rfl ?_
  refine WL_move rfl rfl ?_
  refine WL_guard rfl rfl ?_
  refine WL_bool_neq Try.underlying4 rfl rfl rfl ?_
  refine WL_pick_f rfl rfl rfl ?_
  refine WL_nil ?_
  have hq9 := Option.some.inj hr11
  subst hq9
  have hC55 := hC48.f7
  have hC56 := hC55.f7
  have hC57 := hC56.f7
  have hC58 := hC57.f6
  have hC59 := hC58.f6
  have hC60 := hC59.h5
  refine nrm_sub (l' := [(1, (.int .i64 a2)), (2, (.int .i64 a3)), (3, (ptr b1 0)), (8, (ptr b2 0)), (9, (.bool x3.2)), (11, (ptr b4 0)), (69, (.bool (!decide (x5.2 = x3.2))))]) ⟨rfl, rfl, rfl, rfl, rfl, rfl, rfl, trivial⟩ ?_
  exact ⟨(!decide (x5.2 = x3.2)), rfl, rfl, (Keep.of hB18).below, hC60⟩
 rintro _ w22 ⟨x11, rfl, rfl, hB17, hC41⟩
 try dsimp only at hF
 refine W_cond rfl (fun hc7 => ?_) (fun hc7 => ?_)
 ·replace hF := ite_t hF hc7
  refine W_seq_reg ?_
  refine WL_assign rfl rfl ?_
  refine WL_nil ?_
  refine W_ret ?_
  refine nrm_ret ?_
  have hq10 := Option.some.inj hF
  subst hq10
  refine fn_ret1 rfl rfl ?_
  exact ⟨_, rfl, bool_res hC41 _⟩
 replace hF := ite_f hF hc7
 refine W_skip ?_
 refine nrm_normal ?_
 refine W_seq_reg ?_
 refine WL_assign rfl rfl ?_
 refine WL_nil ?_
 refine W_seq_reg ?_
 refine WL_load_box_agg [v10, (.int .i64 x5.1.2.1), (.int .i64 x5.1.2.2)] hC41 0 rfl rfl rfl Try.isAgg26 Try.sizeOf26 rfl rfl ?_
 refine WL_move rfl rfl ?_
 obtain ⟨x13, hr13, hF⟩ := bind_some hF
 have hC61 := hC41.f1
 obtain ⟨Fs2, hH2, hn8, hF2, hO2, hb8⟩ := Ctx.lend2 (As := [Item.box b4 [v10, (.int .i64 x5.1.2.1), (.int .i64 x5.1.2.2)], Item.box b2 [v5, (.int .i64 x3.1.2.1), (.int .i64 x3.1.2.2)], Item.own v5 (x3.1.1 : (List Int)), Item.box b1 [u1, (.int .i64 a1.2.1), (.int .i64 a1.2.2)]]) [Item.own v10 (x5.1.1 : (List Int))] hC61
 refine WL_call Try.call20 rfl rfl (c_Q_markLedger (x5.1.1, x5.1.2.1, x5.1.2.2) v10 1 hH2 hn8 x13 hr13) ?_
 rintro _ w24 ⟨rfl, hq11⟩
 have hC62 : Ctx [] w0 w24 [Item.own v10 (x13.2.1 : (List Int)), Item.box b4 [v10, (.int .i64 x5.1.2.1), (.int .i64 x5.1.2.2)], Item.box b2 [v5, (.int .i64 x3.1.2.1), (.int .i64 x3.1.2.2)], Item.own v5 (x3.1.1 : (List Int)), Item.box b1 [u1, (.int .i64 a1.2.1), (.int .i64 a1.2.2)]] := hb8 _ _ hq11
 refine WL_assign rfl rfl ?_
 refine WL_nil ?_
 refine W_seq_reg ?_
 refine WL_assign rfl rfl ?_
 refine WL_nil ?_
 refine W_seq_reg ?_
 refine WL_load_box_agg [v10, (.int .i64 x5.1.2.1), (.int .i64 x5.1.2.2)] hC62 1 rfl rfl rfl Try.isAgg26 Try.sizeOf26 rfl rfl ?_
 refine WL_move rfl rfl ?_
 obtain ⟨x14, hr14, hF⟩ := bind_some hF
 refine WL_call Try.call21 rfl rfl (c_Q_heldLedger (x13.2.1, x5.1.2.1, x5.1.2.2) v10 ((hC62.ro 0 rfl).now (Keep.refl _ _)) 1 x14 hr14) ?_
 intro _ w25 hv12
 obtain ⟨rfl, hB19⟩ := res_int hv12
 have hC63 := hC62.grow hB19
 refine WL_assign rfl rfl ?_
 refine WL_nil ?_
 refine W_seq ?_
 refine W_seq_reg ?_
 refine WL_move rfl rfl ?_
 refine WL_lss rfl rfl rfl ?_
 refine WL_nil ?_
 refine W_cond rfl (fun hc8 => ?_) (fun hc8 => ?_)
 ·replace hF := ite_t hF hc8
  refine W_seq_reg ?_
  refine WL_assign rfl rfl ?_
  refine WL_nil ?_
  refine W_ret ?_
  refine nrm_ret ?_
  have hq12 := Option.some.inj hF
  subst hq12
  refine fn_ret1 rfl rfl ?_
  exact ⟨_, rfl, bool_res hC63 _⟩
 replace hF := ite_f hF hc8
 refine W_skip ?_
 refine nrm_normal ?_
 refine W_seq ?_
 refine W_seq_reg ?_
 refine WL_move rfl rfl ?_
 refine WL_move rfl rfl ?_
 refine WL_neq rfl rfl rfl ?_
 refine WL_nil ?_
 refine W_cond rfl (fun hc9 => ?_) (fun hc9 => ?_)
 ·replace hF := ite_t hF hc9
  refine W_seq_reg ?_
  refine WL_assign rfl rfl ?_
  refine WL_nil ?_
  refine W_ret ?_
  refine nrm_ret ?_
  have hq13 := Option.some.inj hF
  subst hq13
  refine fn_ret1 rfl rfl ?_
  exact ⟨_, rfl, bool_res hC63 _⟩
 replace hF := ite_f hF hc9
 refine W_skip ?_
 refine nrm_normal ?_
 refine W_seq_reg ?_
 refine WL_load_box_agg [u1, (.int .i64 a1.2.1), (.int .i64 a1.2.2)] hC63 4 rfl rfl rfl Try.isAgg24 Try.sizeOf24 rfl rfl ?_
 obtain ⟨x15, hr15, hF⟩ := bind_some hF
 refine WL_call Try.call17 rfl rfl (c_Q_toLedger (a1.1, a1.2.1, a1.2.2) u1 (g1.now hC63.keep) x15 hr15) ?_
 rintro v14 w26 ⟨hB20, F8, hv13, hn9, hb9⟩
 have hC64 := hC63.push hB20 (A := Item.own v14 x15) hv13 hn9 hb9
 obtain ⟨v15, rfl, hC65⟩ := st26_own hC64
 refine WL_move rfl rfl ?_
 refine WL_move rfl rfl ?_
 obtain ⟨x16, hr16, hF⟩ := bind_some hF
 refine WL_call Try.call18 rfl rfl (c_M_ReceiveCall x15 v15 ((hC65.ro 0 rfl).now (Keep.refl _ _)) a2 a3 x16 hr16) ?_
 rintro _ w27 ⟨hB21, v16, v17, F9, F10, rfl, hv14, hv15, hn10, hb10⟩
 obtain ⟨rfl, rfl⟩ := val_bool hv15
 have hC66 := hC65.pushL hB21 (Bs := [Item.own v16 x16.1]) (Fs := [F9]) ⟨F9, _, rfl, hv14, rfl⟩ (by simpa using hn10) (fun b h => hb10 b (by simpa using h))
 obtain ⟨v18, rfl, hC67⟩ := st26_own hC66
 refine WL_move rfl rfl ?_
 refine WL_extract rfl rfl rfl ?_
 refine WL_extract rfl rfl rfl ?_
 refine WL_alloc hC67 zero26 rfl rfl (fun b5 w28 hC68 hB22 => ?_)
 refine WL_store_box_agg (cs' := [v18, (.int .i64 x16.1.2.1), (.int .i64 x16.1.2.2)]) (new := [v18, (.int .i64 x16.1.2.1), (.int .i64 x16.1.2.2)]) hC68 0 rfl rfl (by intro v hv; simp only [List.mem_cons, List.not_mem_nil, or_false] at hv; rcases hv with rfl | rfl | rfl; exact (ro_one (hC68.ro 1 rfl)); exact rfl; exact rfl) rfl Try.sizeOf26 rfl rfl (fun w29 hC69 => ?_)
 try dsimp only [List.set] at hC69
 refine WL_assign rfl rfl ?_
 refine WL_nil ?_
 refine W_seq ?_
 obtain ⟨r3, hr17, hF⟩ := bind_some hF
 refine W_cut (fun l w => ∃ x17 : Bool, x17 = r3 ∧ l = [(11, (ptr b4 0)), (14, (.int .i64 x13.1)), (97, (.bool x17))] ∧ Below w29.heap.size w29 w ∧ Ctx [] w0 w [Item.own v10 (x13.2.1 : (List Int)), Item.box b4 [v10, (.int .i64 x5.1.2.1), (.int .i64 x5.1.2.2)]]) ?_ ?_
 ·refine W_reg ?_
  refine WL_load_box_agg [v18, (.int .i64 x16.1.2.1), (.int .i64 x16.1.2.2)] hC69 0 rfl rfl rfl Try.isAgg26 Try.sizeOf26 rfl rfl ?_
  refine WL_load_box_agg [v5, (.int .i64 x3.1.2.1), (.int .i64 x3.1.2.2)] hC69 5 rfl rfl rfl Try.isAgg26 Try.sizeOf26 rfl rfl ?_
  obtain ⟨x18, hr18, hr17⟩ := bind_some hr17
  refine WL_call Try.call19 rfl rfl (c_Q_eqLedger (x16.1.1, x16.1.2.1, x16.1.2.2) v18 ((hC69.ro 1 rfl).now (Keep.refl _ _)) (x3.1.1, x3.1.2.1, x3.1.2.2) v5 ((hC69.ro 6 rfl).now (Keep.refl _ _)) x18 hr18) ?_
  intro _ w31 hv16
  obtain ⟨rfl, hB24⟩ := res_bool hv16
  have hC71 := hC69.grow hB24
  refine WL_not rfl rfl ?_
  refine WL_move rfl rfl ?_
  refine WL_fork (fun hc10 => ?_) (fun hc10 => ?_)
  ·replace hr17 := ite_t hr17 hc10
   refine WL_guard_skip rfl rfl (by simp) rfl ?_
   refine WL_guard_skip rfl rfl (by simp) rfl ?_
   refine WL_guard_skip rfl rfl (by simp) rfl ?_
   refine WL_pick_t rfl rfl rfl ?_
   refine WL_nil ?_
   have hq14 := Option.some.inj hr17
   subst hq14
   have hC72 := hC71.f4
   have hC73 := hC72.f4
   have hC74 := hC73.h2
   refine nrm_sub (l' := [(11, (ptr b4 0)), (14, (.int .i64 x13.1)), (97, (.bool true))]) ⟨rfl, rfl, rfl, trivial⟩ ?_
   exact ⟨true, rfl, rfl, (Keep.of hB24).below, hC74⟩
  replace hr17 := ite_f hr17 hc10
  refine WL_guard rfl rfl ?_
  refine WL_move rfl rfl ?_
  refine WL_guard rfl rfl ?_
  refine WL_move rfl rfl ?_
  refine WL_guard rfl rfl ?_
  refine WL_bool_neq Try.underlying4 rfl rfl rfl ?_
  refine WL_pick_f rfl rfl rfl ?_
  refine WL_nil ?_
  have hq15 := Option.some.inj hr17
  subst hq15
  have hC75 := hC71.f4
  have hC76 := hC75.f4
  have hC77 := hC76.h2
  refine nrm_sub (l' := [(11, (ptr b4 0)), (14, (.int .i64 x13.1)), (97, (.bool (!decide (x16.2 = x3.2))))]) ⟨rfl, rfl, rfl, trivial⟩ ?_
  exact ⟨(!decide (x16.2 = x3.2)), rfl, rfl, (Keep.of hB24).below, hC77⟩
 rintro _ w30 ⟨x17, rfl, rfl, hB23, hC70⟩
 try dsimp only at hF
 refine W_cond rfl (fun hc11 => ?_) (fun hc11 => ?_)
 ·replace hF := ite_t hF hc11
  refine W_seq_reg ?_
  refine WL_assign rfl rfl ?_
  refine WL_nil ?_
  refine W_ret ?_
  refine nrm_ret ?_
  have hq16 := Option.some.inj hF
  subst hq16
  refine fn_ret1 rfl rfl ?_
  exact ⟨_, rfl, bool_res hC70 _⟩
 replace hF := ite_f hF hc11
 refine W_skip ?_
 refine nrm_normal ?_
 refine W_seq_reg ?_
 refine WL_assign rfl rfl ?_
 refine WL_nil ?_
 refine W_seq_reg ?_
 refine WL_load_box_agg [v10, (.int .i64 x5.1.2.1), (.int .i64 x5.1.2.2)] hC70 1 rfl rfl rfl Try.isAgg26 Try.sizeOf26 rfl rfl ?_
 refine WL_move rfl rfl ?_
 obtain ⟨x19, hr19, hF⟩ := bind_some hF
 refine WL_call Try.call21 rfl rfl (c_Q_heldLedger (x13.2.1, x5.1.2.1, x5.1.2.2) v10 ((hC70.ro 0 rfl).now (Keep.refl _ _)) 1 x19 hr19) ?_
 intro _ w32 hv17
 obtain ⟨rfl, hB25⟩ := res_int hv17
 have hC78 := hC70.grow hB25
 refine WL_assign rfl rfl ?_
 refine WL_nil ?_
 refine W_seq ?_
 refine W_seq_reg ?_
 refine WL_move rfl rfl ?_
 refine WL_lss rfl rfl rfl ?_
 refine WL_nil ?_
 refine W_cond rfl (fun hc12 => ?_) (fun hc12 => ?_)
 ·replace hF := ite_t hF hc12
  refine W_seq_reg ?_
  refine WL_assign rfl rfl ?_
  refine WL_nil ?_
  refine W_ret ?_
  refine nrm_ret ?_
  have hq17 := Option.some.inj hF
  subst hq17
  refine fn_ret1 rfl rfl ?_
  exact ⟨_, rfl, bool_res hC78 _⟩
 replace hF := ite_f hF hc12
 refine W_skip ?_
 refine nrm_normal ?_
 refine W_seq ?_
 refine W_seq_reg ?_
 refine WL_move rfl rfl ?_
 refine WL_move rfl rfl ?_
 refine WL_neq rfl rfl rfl ?_
 refine WL_nil ?_
 refine W_cond rfl (fun hc13 => ?_) (fun hc13 => ?_)
 ·replace hF := ite_t hF hc13
  refine W_seq_reg ?_
  refine WL_assign rfl rfl ?_
  refine WL_nil ?_
  refine W_ret ?_
  refine nrm_ret ?_
  have hq18 := Option.some.inj hF
  subst hq18
  refine fn_ret1 rfl rfl ?_
  exact ⟨_, rfl, bool_res hC78 _⟩
 replace hF := ite_f hF hc13
 refine W_skip ?_
 refine nrm_normal ?_
 refine W_seq_reg ?_
 refine WL_assign rfl rfl ?_
 refine WL_nil ?_
 refine W_ret ?_
 have hq19 := Option.some.inj hF
 subst hq19
 refine fn_ret1 rfl rfl ?_
 exact ⟨_, rfl, bool_res hC78 _⟩

end Go.Gx.Px
