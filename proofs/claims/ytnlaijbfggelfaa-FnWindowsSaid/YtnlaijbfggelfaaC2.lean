/- The contracts of the Go functions against the pure functions, printed by program. Conditions: each says them. -/
import Derived.Test.YtnlaijbfggelfaaC1
set_option linter.unusedVariables false
set_option linter.unusedSimpArgs false
set_option maxRecDepth 100000
set_option maxHeartbeats 4000000
namespace Go.Gx.Px
open Go.Proofs Go.RowKit

theorem c_S_DrawCallsIn {w0 : World} (a1 : (List UInt8)) (u1 : Value) (g1 : RO [] w0 u1 a1) (rr : ((List Int) × Int × Int)) (hF : S.DrawCallsIn a1 = some rr) :
 Calls Try.prog 17 [u1].toArray w0 fun e w' => ∃ v, e = .returned v ∧ Res3 w0 rr.1 rr.2.1 rr.2.2 v w' := by
 refine calls_of_W Try.func17 rfl rfl ?_
 have hC0 := Ctx.start w0
 unfold S.DrawCallsIn at hF
 refine W_seq_reg ?_
 refine WL_assign rfl rfl ?_
 refine WL_assign rfl rfl ?_
 refine WL_assign rfl rfl ?_
 refine WL_nil ?_
 refine W_seq_reg ?_
 refine WL_move rfl rfl ?_
 obtain ⟨x1, hr1, hF⟩ := bind_some hF
 refine WL_call Try.call28 rfl rfl (c_S_l1New a1 u1 (g1.now hC0.keep) x1 hr1) ?_
 rintro _ w1 ⟨b1, rfl, hq1⟩
 have hC1 : Ctx [] w0 w1 [Item.box b1 [u1, (.int .i64 x1.2.1), (.int .i64 x1.2.2)]] := hC0.push2 hq1
 refine WL_assign rfl rfl ?_
 refine WL_nil ?_
 refine W_seq_reg ?_
 refine WL_move rfl rfl ?_
 obtain ⟨x2, hr2, hF⟩ := bind_some hF
 obtain ⟨Fs2, hH2, hn2, hF2, hO2, hb2⟩ := Ctx.lend2 (As := []) [Item.box b1 [u1, (.int .i64 x1.2.1), (.int .i64 x1.2.2)]] hC1
 refine WL_call Try.call37 rfl rfl (c_S_l18List b1 (a1, x1.2.1, x1.2.2) u1 (RO.lent g1 hC1.keep hF2) hH2 hn2 x2 hr2) ?_
 rintro v1 w2 ⟨_, rfl, hq2⟩
 have hC2 : Ctx [] w0 w2 [Item.own v1 (x2.1 : (List Int)), Item.box b1 [u1, (.int .i64 x2.2.2.1), (.int .i64 x2.2.2.2)]] := hb2 _ _ hq2
 refine WL_assign rfl rfl ?_
 refine WL_nil ?_
 refine W_seq_reg ?_
 refine WL_move rfl rfl ?_
 obtain ⟨x3, hr3, hF⟩ := bind_some hF
 have hC3 := hC2.f1
 obtain ⟨Fs3, hH3, hn3, hF3, hO3, hb3⟩ := Ctx.lend2 (As := [Item.own v1 (x2.1 : (List Int))]) [Item.box b1 [u1, (.int .i64 x2.2.2.1), (.int .i64 x2.2.2.2)]] hC3
 refine WL_call Try.call30 rfl rfl (c_S_l1Below b1 (a1, x2.2.2.1, x2.2.2.2) u1 (RO.lent g1 hC3.keep hF3) 8 hH3 hn3 x3 hr3) ?_
 rintro _ w3 ⟨rfl, hq3⟩
 have hC4 : Ctx [] w0 w3 [Item.box b1 [u1, (.int .i64 x3.2.2.1), (.int .i64 x3.2.2.2)], Item.own v1 (x2.1 : (List Int))] := hb3 _ _ hq3
 refine WL_sub rfl rfl rfl ?_
 refine WL_assign rfl rfl ?_
 refine WL_nil ?_
 refine W_seq_reg ?_
 refine WL_move rfl rfl ?_
 refine WL_move rfl rfl ?_
 refine WL_move rfl rfl ?_
 obtain ⟨x4, hr4, hF⟩ := bind_some hF
 obtain ⟨Fs4, hH4, hn4, hF4, hO4, hb4⟩ := Ctx.lend2 (As := [Item.own v1 (x2.1 : (List Int))]) [Item.box b1 [u1, (.int .i64 x3.2.2.1), (.int .i64 x3.2.2.2)]] hC4
 refine WL_call Try.call30 rfl rfl (c_S_l1Below b1 (a1, x3.2.2.1, x3.2.2.2) u1 (RO.lent g1 hC4.keep hF4) 6 hH4 hn4 x4 hr4) ?_
 rintro _ w4 ⟨rfl, hq4⟩
 have hC5 : Ctx [] w0 w4 [Item.box b1 [u1, (.int .i64 x4.2.2.1), (.int .i64 x4.2.2.2)], Item.own v1 (x2.1 : (List Int))] := hb4 _ _ hq4
 refine WL_assign rfl rfl ?_
 refine WL_assign rfl rfl ?_
 refine WL_assign rfl rfl ?_
 refine WL_nil ?_
 refine W_ret ?_
 have hq5 := Option.some.inj hF
 subst hq5
 refine fn_ret3 rfl rfl rfl rfl ?_
 have hC6 := hC5.triv (int_val (x4.1))
 have hC7 := hC6.triv (int_val (w64 (x3.1 - 1)))
 have hC8 := hC7.f3
 exact ⟨_, rfl, res3_of hC8⟩

theorem c_Q_FnWindows {w0 : World} (a1 : (List UInt8)) (u1 : Value) (g1 : RO [] w0 u1 a1) (rr : Bool) (hF : Q.FnWindows a1 = some rr) :
 Calls Try.prog 3 [u1].toArray w0 fun e w' => ∃ v, e = .returned v ∧ Res w0 rr v w' := by
 refine calls_of_W Try.func3 rfl rfl ?_
 have hC0 := Ctx.start w0
 unfold Q.FnWindows at hF
 refine W_seq_reg ?_
 refine WL_assign rfl rfl ?_
 refine WL_nil ?_
 refine W_seq ?_
 refine W_seq_reg ?_
 refine WL_move rfl rfl ?_
 obtain ⟨x1, hr1, hF⟩ := bind_some hF
 refine WL_call Try.call5 rfl rfl (c_Q_big a1 u1 (g1.now hC0.keep) x1 hr1) ?_
 intro _ w1 hv1
 obtain ⟨rfl, hB1⟩ := res_bool hv1
 have hC1 := hC0.grow hB1
 refine WL_nil ?_
 refine W_cond rfl (fun hc1 => ?_) (fun hc1 => ?_)
 ·replace hF := ite_t hF hc1
  refine W_seq_reg ?_
  refine WL_assign rfl rfl ?_
  refine WL_nil ?_
  refine W_ret ?_
  refine nrm_ret ?_
  have hq1 := Option.some.inj hF
  subst hq1
  refine fn_ret1 rfl rfl ?_
  exact ⟨_, rfl, bool_res hC1 _⟩
 replace hF := ite_f hF hc1
 refine W_skip ?_
 refine nrm_normal ?_
 refine W_seq_reg ?_
 refine WL_move rfl rfl ?_
 obtain ⟨x2, hr2, hF⟩ := bind_some hF
 refine WL_call Try.call6 rfl rfl (c_S_DrawScheduleCalls a1 u1 (g1.now hC1.keep) x2 hr2) ?_
 rintro _ w2 ⟨hB2, v1, v2, v3, F1, F2, F3, rfl, hv2, hv3, hv4, hn1, hb1⟩
 obtain ⟨rfl, rfl⟩ := val_int hv2
 obtain ⟨rfl, rfl⟩ := val_int hv4
 have hC2 := hC1.pushL hB2 (Bs := [Item.own v2 x2.2.1]) (Fs := [F2]) ⟨F2, _, rfl, hv3, rfl⟩ (by simpa using hn1) (fun b h => hb1 b (by simpa using h))
 obtain ⟨rfl, hC3⟩ := st25_own hC2
 refine WL_move rfl rfl ?_
 refine WL_extract rfl rfl rfl ?_
 refine WL_extract rfl rfl rfl ?_
 refine WL_extract rfl rfl rfl ?_
 refine WL_allocK hC3 zero25 rfl rfl (fun b1 w3 hC4 hB3 hN1 => ?_)
 refine WL_assign rfl rfl ?_
 refine WL_store_box_aggK (cs' := [(.int .i64 x2.2.1.1), (.int .i64 x2.2.1.2)]) (new := [(.int .i64 x2.2.1.1), (.int .i64 x2.2.1.2)]) hC4 0 rfl rfl (by intro v hv; simp only [List.mem_cons, List.not_mem_nil, or_false] at hv; rcases hv with rfl | rfl; exact rfl; exact rfl) rfl Try.sizeOf25 rfl rfl (fun w4 hC5 hKp1 => ?_)
 try dsimp only [List.set] at hC5
 have hk1 := Keep.over (((Keep.of hB1).then hB2).then hB3) (Nat.le_trans ((Keep.of hB1).then hB2).size hN1) hKp1
 have hk2 := Keep.over ((Keep.of hB2).then hB3) (Nat.le_trans (Keep.of hB2).size hN1) hKp1
 have hk3 := Keep.over (Keep.of hB3) hN1 hKp1
 refine WL_assign rfl rfl ?_
 refine WL_nil ?_
 refine W_seq_reg ?_
 refine WL_move rfl rfl ?_
 refine WL_load_box_agg [(.int .i64 x2.2.1.1), (.int .i64 x2.2.1.2)] hC5 0 rfl rfl rfl Try.isAgg25 Try.sizeOf25 rfl rfl ?_
 refine WL_move rfl rfl ?_
 obtain ⟨x3, hr3, hF⟩ := bind_some hF
 refine WL_call Try.call7 rfl rfl (c_M_ScheduleCalls x2.1 (x2.2.1.1, x2.2.1.2) x2.2.2 x3 hr3) ?_
 rintro _ w5 ⟨hB4, v4, v5, F4, F5, rfl, hv5, hv6, hn2, hb2⟩
 obtain ⟨rfl, rfl⟩ := val_bool hv6
 have hC6 := hC5.pushL hB4 (Bs := [Item.own v4 x3.1]) (Fs := [F4]) ⟨F4, _, rfl, hv5, rfl⟩ (by simpa using hn2) (fun b h => hb2 b (by simpa using h))
 refine WL_move rfl rfl ?_
 refine WL_extract rfl rfl rfl ?_
 refine WL_extract rfl rfl rfl ?_
 refine WL_assign rfl rfl ?_
 refine WL_assign rfl rfl ?_
 refine WL_nil ?_
 refine W_seq_reg ?_
 refine WL_move rfl rfl ?_
 refine WL_load_box_agg [(.int .i64 x2.2.1.1), (.int .i64 x2.2.1.2)] hC6 1 rfl rfl rfl Try.isAgg25 Try.sizeOf25 rfl rfl ?_
 refine WL_move rfl rfl ?_
 obtain ⟨x4, hr4, hF⟩ := bind_some hF
 refine WL_call Try.call8 rfl rfl (c_S_ScheduleCalls x2.1 (x2.2.1.1, x2.2.1.2) x2.2.2 x4 hr4) ?_
 rintro _ w6 ⟨hB5, v6, v7, F6, F7, rfl, hv7, hv8, hn3, hb3⟩
 obtain ⟨rfl, rfl⟩ := val_bool hv8
 have hC7 := hC6.pushL hB5 (Bs := [Item.own v6 x4.1]) (Fs := [F6]) ⟨F6, _, rfl, hv7, rfl⟩ (by simpa using hn3) (fun b h => hb3 b (by simpa using h))
 refine WL_move rfl rfl ?_
 refine WL_extract rfl rfl rfl ?_
 refine WL_extract rfl rfl rfl ?_
 refine WL_assign rfl rfl ?_
 refine WL_assign rfl rfl ?_
 refine WL_nil ?_
 refine W_seq ?_
 obtain ⟨r1, hr5, hF⟩ := bind_some hF
 refine W_cut (fun l w => ∃ x5 : Bool, x5 = r1 ∧ l = [(0, u1), (3, (.int .i64 x2.1)), (4, (ptr b1 0)), (5, (.int .i64 x2.2.2)), (7, (.bool x3.2)), (8, v6), (55, (.bool x5))] ∧ Below w6.heap.size w6 w ∧ Ctx [] w0 w [Item.own v6 (x4.1 : (List Int)), Item.box b1 [(.int .i64 x2.2.1.1), (.int .i64 x2.2.1.2)]]) ?_ ?_
 ·refine W_reg ?_
  refine WL_move rfl rfl ?_
  refine WL_move rfl rfl ?_
  refine WL_bool_neq Try.underlying4 rfl rfl rfl ?_
  refine WL_move rfl rfl ?_
  refine WL_fork (fun hc2 => ?_) (fun hc2 => ?_)
  ·replace hr5 := ite_t hr5 hc2
   refine WL_guard_skip rfl rfl (by simp) rfl ?_
   refine WL_guard_skip rfl rfl (by simp) rfl ?_
   refine WL_guard_skip rfl rfl (by simp) rfl ?_
   refine WL_guard_skip rfl rfl (by simp) rfl ?_
   refine WL_pick_t rfl rfl rfl ?_
   refine WL_nil ?_
   have hq2 := Option.some.inj hr5
   subst hq2
   have hC9 := hC7.f2
   have hC10 := hC9.f1
   have hC11 := hC10.h2
   refine nrm_sub (l' := [(0, u1), (3, (.int .i64 x2.1)), (4, (ptr b1 0)), (5, (.int .i64 x2.2.2)), (7, (.bool x3.2)), (8, v6), (55, (.bool true))]) ⟨rfl, rfl, rfl, rfl, rfl, rfl, rfl, trivial⟩ ?_
   exact ⟨true, rfl, rfl, (Below.refl _ _), hC11⟩
  replace hr5 := ite_f hr5 hc2
  refine WL_guard rfl rfl ?_
  refine WL_move rfl rfl ?_
  refine WL_guard rfl rfl ?_
  refine WL_move rfl rfl ?_
  obtain ⟨x6, hr6, hr5⟩ := bind_some hr5
  refine WL_guard rfl rfl ?_
  refine WL_call Try.call9 rfl rfl (c_Q_sameInts x3.1 v4 ((hC7.ro 1 rfl).now (Keep.refl _ _)) x4.1 v6 ((hC7.ro 0 rfl).now (Keep.refl _ _)) x6 hr6) ?_
  intro _ w9 hv9
  obtain ⟨rfl, hB7⟩ := res_bool hv9
  have hC12 := hC7.grow hB7
  refine WL_guard rfl rfl ?_
  refine WL_not rfl rfl ?_
  refine WL_pick_f rfl rfl rfl ?_
  refine WL_nil ?_
  have hq3 := Option.some.inj hr5
  subst hq3
  have hC13 := hC12.f2
  have hC14 := hC13.f1
  have hC15 := hC14.h2
  refine nrm_sub (l' := [(0, u1), (3, (.int .i64 x2.1)), (4, (ptr b1 0)), (5, (.int .i64 x2.2.2)), (7, (.bool x3.2)), (8, v6), (55, (.bool (!x6)))]) ⟨rfl, rfl, rfl, rfl, rfl, rfl, rfl, trivial⟩ ?_
  exact ⟨(!x6), rfl, rfl, (Keep.of hB7).below, hC15⟩
 rintro _ w7 ⟨x5, rfl, rfl, hB6, hC8⟩
 try dsimp only at hF
 refine W_cond rfl (fun hc3 => ?_) (fun hc3 => ?_)
 ·replace hF := ite_t hF hc3
  refine W_seq_reg ?_
  refine WL_assign rfl rfl ?_
  refine WL_nil ?_
  refine W_ret ?_
  refine nrm_ret ?_
  have hq4 := Option.some.inj hF
  subst hq4
  refine fn_ret1 rfl rfl ?_
  exact ⟨_, rfl, bool_res hC8 _⟩
 replace hF := ite_f hF hc3
 refine W_skip ?_
 refine nrm_normal ?_
 refine W_seq ?_
 refine W_seq_reg ?_
 refine WL_move rfl rfl ?_
 refine WL_nil ?_
 obtain ⟨r2, hr7, hF⟩ := bind_some hF
 refine W_norm (fun l w => .inl () = r2 ∧ l = [(0, u1)] ∧ Ctx [] w0 w []) ?_ ?_
 ·refine W_cond rfl (fun hc4 => ?_) (fun hc4 => ?_)
  ·replace hr7 := ite_t hr7 hc4
   refine W_seq ?_
   obtain ⟨r3, hr8, hr7⟩ := bind_some hr7
   refine W_cut (fun l w => ∃ x7 : Bool, x7 = r3 ∧ l = [(0, u1), (4, (ptr b1 0)), (5, (.int .i64 x2.2.2)), (8, v6), (66, (.bool x7))] ∧ Below w7.heap.size w7 w ∧ Ctx [] w0 w [Item.own v6 (x4.1 : (List Int)), Item.box b1 [(.int .i64 x2.2.1.1), (.int .i64 x2.2.1.2)]]) ?_ ?_
   ·refine W_reg ?_
    refine WL_move rfl rfl ?_
    refine WL_len Try.underlying28 (hC8.ro 0 rfl) rfl rfl ?_
    refine WL_move rfl rfl ?_
    refine WL_neq rfl rfl rfl ?_
    refine WL_move rfl rfl ?_
    refine WL_fork (fun hc5 => ?_) (fun hc5 => ?_)
    ·replace hr8 := ite_t hr8 hc5
     refine WL_guard_skip rfl rfl (by simp) rfl ?_
     refine WL_guard_skip rfl rfl (by simp) rfl ?_
     refine WL_guard_skip rfl rfl (by simp) rfl ?_
     refine WL_guard_skip rfl rfl (by simp) rfl ?_
     refine WL_pick_t rfl rfl rfl ?_
     refine WL_nil ?_
     have hq5 := Option.some.inj hr8
     subst hq5
     refine nrm_sub (l' := [(0, u1), (4, (ptr b1 0)), (5, (.int .i64 x2.2.2)), (8, v6), (66, (.bool true))]) ⟨rfl, rfl, rfl, rfl, rfl, trivial⟩ ?_
     exact ⟨true, rfl, rfl, (Below.refl _ _), hC8⟩
    replace hr8 := ite_f hr8 hc5
    refine WL_guard rfl rfl ?_
    refine WL_move rfl rfl ?_
    refine WL_guard rfl rfl ?_
    refine WL_load_box_agg [(.int .i64 x2.2.1.1), (.int .i64 x2.2.1.2)] hC8 1 rfl rfl rfl Try.isAgg25 Try.sizeOf25 rfl rfl ?_
    obtain ⟨x8, hr9, hr8⟩ := bind_some hr8
    refine WL_guard rfl rfl ?_
    refine WL_call Try.call10 rfl rfl (c_M_IsKept x4.1 v6 ((hC8.ro 0 rfl).now (Keep.refl _ _)) (x2.2.1.1, x2.2.1.2) x8 hr9) ?_
    intro _ w12 hv10
    obtain ⟨rfl, hB10⟩ := res_bool hv10
    have hC18 := hC8.grow hB10
    refine WL_guard rfl rfl ?_
    refine WL_not rfl rfl ?_
    refine WL_pick_f rfl rfl rfl ?_
    refine WL_nil ?_
    have hq6 := Option.some.inj hr8
    subst hq6
    refine nrm_sub (l' := [(0, u1), (4, (ptr b1 0)), (5, (.int .i64 x2.2.2)), (8, v6), (66, (.bool (!x8)))]) ⟨rfl, rfl, rfl, rfl, rfl, trivial⟩ ?_
    exact ⟨(!x8), rfl, rfl, (Keep.of hB10).below, hC18⟩
   rintro _ w11 ⟨x7, rfl, rfl, hB9, hC17⟩
   try dsimp only at hr7
   refine W_cond rfl (fun hc6 => ?_) (fun hc6 => ?_)
   ·replace hr7 := ite_t hr7 hc6
    refine W_seq_reg ?_
    refine WL_assign rfl rfl ?_
    refine WL_nil ?_
    refine W_ret ?_
    refine nrm_ret ?_
    refine nrm_ret ?_
    refine nrm_ret ?_
    have hq7 := Option.some.inj hr7
    subst hq7
    dsimp only at hF
    have hq8 := Option.some.inj hF
    subst hq8
    refine fn_ret1 rfl rfl ?_
    exact ⟨_, rfl, bool_res hC17 _⟩
   replace hr7 := ite_f hr7 hc6
   refine W_skip ?_
   refine nrm_normal ?_
   refine W_seq ?_
   refine W_seq_reg ?_
   refine WL_assign rfl rfl ?_
   refine WL_nil ?_
   obtain ⟨r4, hr10, hr7⟩ := bind_some hr7
   refine W_norm (fun l w => .inl () = r4 ∧ l = [(0, u1), (4, (ptr b1 0)), (5, (.int .i64 x2.2.2)), (8, v6)] ∧ Below w11.heap.size w11 w ∧ Ctx [] w0 w [Item.own v6 (x4.1 : (List Int)), Item.box b1 [(.int .i64 x2.2.1.1), (.int .i64 x2.2.1.2)]]) ?_ ?_
   ·refine W_block ?_
    refine W.sub (l' := [(0, u1), (4, (ptr b1 0)), (5, (.int .i64 x2.2.2)), (8, v6), (10, (.int .i64 0))]) ?_ ⟨rfl, rfl, rfl, rfl, rfl, trivial⟩
    refine W_loop (fun k l w => ∃ x9 : Int, l = [(0, u1), (4, (ptr b1 0)), (5, (.int .i64 x2.2.2)), (8, v6), (10, (.int .i64 x9))] ∧ Below w11.heap.size w11 w ∧ Ctx [] w0 w [Item.own v6 (x4.1 : (List Int)), Item.box b1 [(.int .i64 x2.2.1.1), (.int .i64 x2.2.1.2)]] ∧ Q.FnWindows_l1 x4 x2 k x9 = some r4) FUEL ⟨0, rfl, (Below.refl _ _), hC17, hr10⟩ ?_
    clear hr10
    rintro k1 _ w13 ⟨x9, rfl, hB11, hC19, hL1⟩
    cases k1 with
    | zero => rw [Q.FnWindows_l1] at hL1; cases hL1
    | succ k1 =>
     rw [Q.FnWindows_l1] at hL1
     refine W_seq ?_
     refine W_seq_reg ?_
     refine WL_move rfl rfl ?_
     refine WL_lss rfl rfl rfl ?_
     refine WL_nil ?_
     refine W_cond rfl (fun hc7 => ?_) (fun hc7 => ?_)
     ·replace hL1 := ite_t hL1 hc7
      refine W_skip ?_
      refine nrm_normal ?_
      refine W_seq ?_
      refine W_block ?_
      refine W_seq ?_
      refine W_drawn 10 rfl hmix (fun w14 hB12 => ?_)
      have hC20 := hC19.grow hB12
      refine WA_tk 0 (by kernel_rfl) rfl rfl (fl_move rfl) ?_
      refine WL_move rfl rfl ?_
      refine WL_nil ?_
      refine WA_tk 1 (by kernel_rfl) rfl rfl (fl_move rfl) ?_
      refine WL_move rfl rfl ?_
      refine WL_nil ?_
      refine WA_tk 2 (by kernel_rfl) rfl rfl (fl_move rfl) ?_
      refine WL_move rfl rfl ?_
      refine WL_nil ?_
      refine WA_tk 3 (by kernel_rfl) rfl rfl (fl_add rfl rfl) ?_
      refine WL_add rfl rfl rfl ?_
      refine WL_nil ?_
      refine WA_tk 4 (by kernel_rfl) rfl rfl (fl_field Try.underlying25 rfl rfl (fun w => ⟨_, Try.sizeOf3 w⟩) rfl) ?_
      refine WL_field Try.underlying25 rfl rfl (fun w => ⟨_, Try.sizeOf3 w⟩) rfl rfl ?_
      refine WL_nil ?_
      refine WA_tk 7 (by kernel_rfl) rfl rfl (fl_field Try.underlying25 rfl rfl (fun w => ⟨_, Try.sizeOf3 w⟩) rfl) ?_
      refine WL_field Try.underlying25 rfl rfl (fun w => ⟨_, Try.sizeOf3 w⟩) rfl rfl ?_
      refine WL_nil ?_
      obtain ⟨x10, hr11, hL1⟩ := bind_some hL1
      refine WA.sub (l' := [(0, u1), (4, (ptr b1 0)), (5, (.int .i64 x2.2.2)), (8, v6), (10, (.int .i64 x9)), (67, (.int .i64 x9)), (68, (.bool (decide (x9 < 40)))), (71, v6), (72, (.int .i64 x2.2.2)), (73, (.int .i64 x9)), (74, (.int .i64 (w64 (x2.2.2 + x9)))), (75, (ptr b1 0)), (78, (ptr b1 1))]) ?_ ⟨rfl, rfl, rfl, rfl, rfl, rfl, rfl, rfl, rfl, rfl, rfl, rfl, rfl, trivial⟩
      refine WA_postsE [⟨5, [], fun vs => PW.val (.int .i64 x2.2.1.1), []⟩, ⟨6, [], fun vs => PW.val (.int .i64 x10), []⟩, ⟨8, [], fun vs => PW.val (.int .i64 x2.2.1.2), []⟩] [[], [5], []] 1 rfl (by kernel_rfl) (by kernel_rfl) rfl ?_ ?_
      ·refine StepsE_cons rfl ?_ ?_
       ·intro w16 hB14
        refine DepsE_nil ?_
        refine ⟨_, rfl, ?_⟩
        refine WL_load_box (hC20.grow hB14) 1 rfl rfl Try.isAgg3 rfl rfl ?_
        refine WL_nil ?_
        exact FinE_val (Below.refl _ _) rfl rfl ⟨rfl, rfl⟩
       refine StepsE_cons rfl ?_ ?_
       ·intro w16 hB14
        refine DepsE_cons rfl rfl rfl ?_
        rintro _ _ ⟨rfl, rfl⟩ _
        refine DepsE_nil ?_
        refine ⟨_, rfl, ?_⟩
        refine WL_call Try.call11 rfl rfl (c_S_CallsIn x4.1 v6 ((hC20.grow hB14).ro 0 rfl) (w64 (x2.2.2 + x9)) x2.2.1.1 x10 hr11) ?_
        intro _ w15 hv11
        obtain ⟨rfl, hB13⟩ := res_int hv11
        refine WL_nil ?_
        exact FinE_val hB13 rfl rfl ⟨rfl, rfl⟩
       refine StepsE_cons rfl ?_ ?_
       ·intro w16 hB14
        refine DepsE_nil ?_
        refine ⟨_, rfl, ?_⟩
        refine WL_load_box (hC20.grow hB14) 1 rfl rfl Try.isAgg3 rfl rfl ?_
        refine WL_nil ?_
        exact FinE_val (Below.refl _ _) rfl rfl ⟨rfl, rfl⟩
       exact StepsE_nil
      intro w17 hB15
      refine AllE_cons rfl rfl rfl ?_
      rintro _ _ ⟨rfl, rfl⟩
      refine AllE_cons rfl rfl rfl ?_
      rintro _ _ ⟨rfl, rfl⟩
      refine AllE_cons rfl rfl rfl ?_
      rintro _ _ ⟨rfl, rfl⟩
      refine AllE_nil ?_
      intro hn4 hb4
      have hC21 := hC20.grow hB15
      refine WA_tk 9 (by kernel_rfl) rfl rfl (fl_gtr rfl rfl) ?_
      refine WL_gtr rfl rfl rfl ?_
      refine WL_nil ?_
      refine WA_done (by kernel_rfl) ?_
      refine nrm_normal ?_
      refine W_cond rfl (fun hc8 => ?_) (fun hc8 => ?_)
      ·replace hL1 := ite_t hL1 hc8
       refine W_seq_reg ?_
       refine WL_assign rfl rfl ?_
       refine WL_nil ?_
       refine W_ret ?_
       refine blk_ret ?_
       refine nrm_ret ?_
       refine nrm_ret ?_
       refine blk_ret ?_
       refine nrm_ret ?_
       refine nrm_ret ?_
       refine nrm_ret ?_
       refine nrm_ret ?_
       have hq9 := Option.some.inj hL1
       subst hq9
       dsimp only at hr7
       have hq10 := Option.some.inj hr7
       subst hq10
       dsimp only at hF
       have hq11 := Option.some.inj hF
       subst hq11
       refine fn_ret1 rfl rfl ?_
       exact ⟨_, rfl, bool_res hC21 _⟩
      replace hL1 := ite_f hL1 hc8
      refine W_skip ?_
      refine blk_normal ?_
      refine nrm_normal ?_
      refine W_reg ?_
      refine WL_move rfl rfl ?_
      refine WL_add rfl rfl rfl ?_
      refine WL_assign rfl rfl ?_
      refine WL_nil ?_
      refine nrm_sub (l' := [(0, u1), (4, (ptr b1 0)), (5, (.int .i64 x2.2.2)), (8, v6), (10, (.int .i64 (w64 (x9 + 1))))]) ⟨rfl, rfl, rfl, rfl, rfl, trivial⟩ ?_
      exact ⟨k1, Nat.lt_succ_self _, w64 (x9 + 1), rfl, (((Keep.of hB11).then hB12).then hB15).below, hC21, hL1⟩
     replace hL1 := ite_f hL1 hc7
     refine W_exit ?_
     refine nrm_exit ?_
     refine nrm_exit ?_
     refine blk_exit ?_
     have hq12 := Option.some.inj hL1
     subst hq12
     refine nrm_sub (l' := [(0, u1), (4, (ptr b1 0)), (5, (.int .i64 x2.2.2)), (8, v6)]) ⟨rfl, rfl, rfl, rfl, trivial⟩ ?_
     exact ⟨rfl, rfl, (Keep.of hB11).below, hC19⟩
   rintro l5 _ w18 hs5 ⟨rfl, rfl, hB16, hC22⟩
   try dsimp only at hr7
   refine nrm_sub' hs5 ?_
   clear hs5
   refine W_seq_reg ?_
   refine WL_assign rfl rfl ?_
   refine WL_nil ?_
   obtain ⟨r5, hr12, hr7⟩ := bind_some hr7
   refine W_norm (fun l w => .inl () = r5 ∧ l = [(0, u1)] ∧ Ctx [] w0 w []) ?_ ?_
   ·refine W_block ?_
    refine W.sub (l' := [(0, u1), (4, (ptr b1 0)), (5, (.int .i64 x2.2.2)), (8, v6), (11, (.int .i64 0))]) ?_ ⟨rfl, rfl, rfl, rfl, rfl, trivial⟩
    refine W_loop (fun k l w => ∃ x11 : Int, l = [(0, u1), (4, (ptr b1 0)), (5, (.int .i64 x2.2.2)), (8, v6), (11, (.int .i64 x11))] ∧ Ctx [] w0 w [Item.own v6 (x4.1 : (List Int)), Item.box b1 [(.int .i64 x2.2.1.1), (.int .i64 x2.2.1.2)]] ∧ Q.FnWindows_l2 x4 x2 k x11 = some r5) FUEL ⟨0, rfl, hC22, hr12⟩ ?_
    clear hr12
    rintro k2 _ w19 ⟨x11, rfl, hC23, hL2⟩
    cases k2 with
    | zero => rw [Q.FnWindows_l2] at hL2; cases hL2
    | succ k2 =>
     rw [Q.FnWindows_l2] at hL2
     refine W_seq ?_
     refine W_seq_reg ?_
     refine WL_move rfl rfl ?_
     refine WL_move rfl rfl ?_
     refine WL_len Try.underlying28 (hC23.ro 0 rfl) rfl rfl ?_
     refine WL_lss rfl rfl rfl ?_
     refine WL_nil ?_
     refine W_cond rfl (fun hc9 => ?_) (fun hc9 => ?_)
     ·replace hL2 := ite_t hL2 hc9
      refine W_skip ?_
      refine nrm_normal ?_
      refine W_seq ?_
      refine W_block ?_
      refine W_seq_reg ?_
      refine WL_buildSlice (vs := []) hC23 Try.underlying28 ty3 rfl rfl rfl rfl (by simp) rfl rfl (fun b2 w20 hC24 hB18 => ?_)
      have hC25 := hC24.row0 (α := Int)
      have hC26 := hC25.front 1 rfl
      dsimp only [List.eraseIdx, List.cons_append, List.nil_append, List.append_nil] at hC26
      have hC27 : Ctx [] w0 w20 (Item.own (.slice (some ⟨b2, 0, none⟩) 0 0) (([] : List Int) : List Int) :: [Item.own v6 (x4.1 : (List Int)), Item.box b1 [(.int .i64 x2.2.1.1), (.int .i64 x2.2.1.2)]]) := hC26.rowOwn (by simp [maxLen])
      refine WL_move rfl rfl ?_
      refine WL_move rfl rfl ?_
      obtain ⟨x12, hx1, hL2⟩ := bind_some hL2
      refine WL_slice_hV Try.underlying28 ty3 (hC27.ro 1 rfl) hx1 rfl rfl rfl (fun v8 h1 => ?_)
      obtain ⟨x13, hx2, hL2⟩ := bind_some hL2
      refine WL_append_flat (α := Int) hC27 0 rfl (h1 (hC27.ro 1 rfl)) (Keep.refl _ _) Try.underlying28 ty3 rfl hx2 rfl rfl rfl (fun v9 w21 hC28 => ?_)
      try dsimp only [List.set] at hC28
      refine WL_assign rfl rfl ?_
      refine WL_nil ?_
      obtain ⟨r6, hr13, hL2⟩ := bind_some hL2
      refine W_cut (fun l w => ∃ x14 : Bool, x14 = r6 ∧ l = [(0, u1), (4, (ptr b1 0)), (5, (.int .i64 x2.2.2)), (8, v6), (11, (.int .i64 x11)), (125, (.bool x14))] ∧ Ctx [] w0 w [Item.own v6 (x4.1 : (List Int)), Item.box b1 [(.int .i64 x2.2.1.1), (.int .i64 x2.2.1.2)]]) ?_ ?_
      ·refine W_drawn 34 rfl hmix (fun w23 hB20 => ?_)
       have hC30 := hC28.grow hB20
       refine WA_tk 0 (by kernel_rfl) rfl rfl (fl_move rfl) ?_
       refine WL_move rfl rfl ?_
       refine WL_nil ?_
       refine WA_tk 1 (by kernel_rfl) rfl rfl (fl_move rfl) ?_
       refine WL_move rfl rfl ?_
       refine WL_nil ?_
       obtain ⟨x15, hx3, hr13⟩ := bind_some hr13
       refine WA_tk 2 (by kernel_rfl) rfl rfl (fl_index Try.underlying28 ty3 (hC30.ro 1 rfl) hx3 rfl rfl) ?_
       refine WL_index Try.underlying28 ty3 (hC30.ro 1 rfl) hx3 rfl rfl rfl (fun b3 o1 h2 => ?_)
       refine WL_nil ?_
       refine WA_tk 4 (by kernel_rfl) rfl rfl (fl_move rfl) ?_
       refine WL_move rfl rfl ?_
       refine WL_nil ?_
       refine WA_one 3 (by kernel_rfl) rfl ?_
       refine WL_load ty3 h2 (Keep.refl _ _) rfl rfl (fun v10 h3 => ?_)
       obtain rfl := ro_int h3
       refine WL_nil ?_
       refine WA_tk 5 (by kernel_rfl) rfl rfl (fl_gtr rfl rfl) ?_
       refine WL_gtr rfl rfl rfl ?_
       refine WL_nil ?_
       refine WA_tk 6 (by kernel_rfl) rfl rfl (fl_move rfl) ?_
       refine WL_move rfl rfl ?_
       refine WL_nil ?_
       refine WA_fork (fun hc10 => ?_) (fun hc10 => ?_)
       ·replace hr13 := ite_t hr13 hc10
        refine WA_takeG 7 rfl (by kernel_rfl) (by kernel_rfl) (by kernel_rfl) rfl rfl rfl (fl_move rfl) ?_
        refine WL_guard rfl rfl ?_
        refine WL_move rfl rfl ?_
        refine WL_nil ?_
        refine WA_takeG 8 rfl (by kernel_rfl) (by kernel_rfl) (by kernel_rfl) rfl rfl rfl (fl_eql rfl rfl) ?_
        refine WL_guard rfl rfl ?_
        refine WL_eql rfl rfl rfl ?_
        refine WL_nil ?_
        refine WA_takeG 9 rfl (by kernel_rfl) (by kernel_rfl) (by kernel_rfl) rfl rfl rfl (fl_move rfl) ?_
        refine WL_guard rfl rfl ?_
        refine WL_move rfl rfl ?_
        refine WL_nil ?_
        refine WA_fork (fun hc11 => ?_) (fun hc11 => ?_)
        ·replace hr13 := ite_t hr13 hc11
         refine WA_sk 10 (by kernel_rfl) rfl rfl rfl rfl (by simp) rfl rfl ?_
         refine WA_sk 11 (by kernel_rfl) rfl rfl rfl rfl (by simp) rfl rfl ?_
         refine WA_sk 12 (by kernel_rfl) rfl rfl rfl rfl (by simp) rfl rfl ?_
         refine WA_sk 13 (by kernel_rfl) rfl rfl rfl rfl (by simp) rfl rfl ?_
         refine WA_sk 14 (by kernel_rfl) rfl rfl rfl rfl (by simp) rfl rfl ?_
         refine WA_sk 15 (by kernel_rfl) rfl rfl rfl rfl (by simp) rfl rfl ?_
         refine WA_sk 16 (by kernel_rfl) rfl rfl rfl rfl (by simp) rfl rfl ?_
         refine WA_sk 17 (by kernel_rfl) rfl rfl rfl rfl (by simp) rfl rfl ?_
         refine WA_sk 18 (by kernel_rfl) rfl rfl rfl rfl (by simp) rfl rfl ?_
         refine WA_sk 19 (by kernel_rfl) rfl rfl rfl rfl (by simp) rfl rfl ?_
         refine WA_takeG 20 rfl (by kernel_rfl) (by kernel_rfl) (by kernel_rfl) rfl rfl rfl (fl_pick_t rfl rfl) ?_
         refine WL_guard rfl rfl ?_
         refine WL_pick_t rfl rfl rfl ?_
         refine WL_nil ?_
         refine WA_tk 21 (by kernel_rfl) rfl rfl (fl_pick_t rfl rfl) ?_
         refine WL_pick_t rfl rfl rfl ?_
         refine WL_nil ?_
         refine WA_tk 22 (by kernel_rfl) rfl rfl (fl_move rfl) ?_
         refine WL_move rfl rfl ?_
         refine WL_nil ?_
         refine WA_takeG 23 rfl (by kernel_rfl) (by kernel_rfl) (by kernel_rfl) rfl rfl rfl (fl_move rfl) ?_
         refine WL_guard rfl rfl ?_
         refine WL_move rfl rfl ?_
         refine WL_nil ?_
         refine WA_takeG 24 rfl (by kernel_rfl) (by kernel_rfl) (by kernel_rfl) rfl rfl rfl (fl_move rfl) ?_
         refine WL_guard rfl rfl ?_
         refine WL_move rfl rfl ?_
         refine WL_nil ?_
         refine WA_takeG 25 rfl (by kernel_rfl) (by kernel_rfl) (by kernel_rfl) rfl rfl rfl (fl_move rfl) ?_
         refine WL_guard rfl rfl ?_
         refine WL_move rfl rfl ?_
         refine WL_nil ?_
         obtain ⟨x16, hx4, hr13⟩ := bind_some hr13
         refine WA_takeG 26 rfl (by kernel_rfl) (by kernel_rfl) (by kernel_rfl) rfl rfl rfl (fl_index Try.underlying28 ty3 (hC30.ro 1 rfl) hx4 rfl rfl) ?_
         refine WL_guard rfl rfl ?_
         refine WL_index Try.underlying28 ty3 (hC30.ro 1 rfl) hx4 rfl rfl rfl (fun b4 o2 h4 => ?_)
         refine WL_nil ?_
         refine WA_all2 (i := 27) (j := 31) (by kernel_rfl) rfl rfl ?_ ?_
         ·refine WL_guard rfl rfl ?_
          refine WL_load ty3 h4 (Keep.refl _ _) rfl rfl (fun v11 h5 => ?_)
          obtain rfl := ro_int h5
          refine WL_nil ?_
          refine WA_takeG 28 rfl (by kernel_rfl) (by kernel_rfl) (by kernel_rfl) rfl rfl rfl (fl_sub rfl rfl) ?_
          refine WL_guard rfl rfl ?_
          refine WL_sub rfl rfl rfl ?_
          refine WL_nil ?_
          refine WA_all2 (i := 29) (j := 31) (by kernel_rfl) rfl rfl ?_ ?_
          ·refine WL_guard rfl rfl ?_
           refine WL_buildSlice (vs := [(.int .i64 (w64 (x16 - 1)))]) hC30 Try.underlying28 ty3 rfl rfl rfl rfl (by intro v hv; simp only [List.mem_cons, List.not_mem_nil, or_false] at hv; rcases hv with rfl <;> rfl) rfl rfl (fun b5 w24 hC31 hB21 => ?_)
           have hC32 := hC31.row0 (α := Int)
           have hC33 := hC32.triv (int_val (w64 (x16 - 1)))
           have hC34 := hC33.row1
           have hC35 := hC34.front 1 rfl
           dsimp only [List.eraseIdx, List.cons_append, List.nil_append, List.append_nil] at hC35
           have hC36 : Ctx [] w0 w24 (Item.own (.slice (some ⟨b5, 0, none⟩) 1 1) ([w64 (x16 - 1)] : List Int) :: [Item.own v9 (x13 : (List Int)), Item.own v6 (x4.1 : (List Int)), Item.box b1 [(.int .i64 x2.2.1.1), (.int .i64 x2.2.1.2)]]) := hC35.rowOwn (by simp [maxLen])
           refine WL_nil ?_
           refine WA_all2 (i := 30) (j := 31) (by kernel_rfl) rfl rfl ?_ ?_
           ·obtain ⟨x17, hx5, hr13⟩ := bind_some hr13
            refine WL_guard rfl rfl ?_
            refine WL_append_flat (α := Int) hC36 1 rfl (hC36.ro 0 rfl) (Keep.refl _ _) Try.underlying28 ty3 rfl hx5 rfl rfl rfl (fun v12 w25 hC37 => ?_)
            try dsimp only [List.set] at hC37
            refine WL_nil ?_
            refine WA_one 31 (by kernel_rfl) rfl ?_
            refine WL_guard rfl rfl ?_
            refine WL_load_box_agg [(.int .i64 x2.2.1.1), (.int .i64 x2.2.1.2)] hC37 3 rfl rfl rfl Try.isAgg25 Try.sizeOf25 rfl rfl ?_
            refine WL_nil ?_
            obtain ⟨x18, hr14, hr13⟩ := bind_some hr13
            refine WA_one 32 (by kernel_rfl) rfl ?_
            refine WL_guard rfl rfl ?_
            refine WL_call Try.call12 rfl rfl (c_S_IsKept x17 v12 ((hC37.ro 1 rfl).now (Keep.refl _ _)) (x2.2.1.1, x2.2.1.2) x18 hr14) ?_
            intro _ w26 hv12
            obtain ⟨rfl, hB22⟩ := res_bool hv12
            have hC38 := hC37.grow hB22
            refine WL_nil ?_
            refine WA_tk 33 (by kernel_rfl) rfl rfl (fl_pick_t rfl rfl) ?_
            refine WL_pick_t rfl rfl rfl ?_
            refine WL_nil ?_
            refine WA_done (by kernel_rfl) ?_
            have hq13 := Option.some.inj hr13
            subst hq13
            have hC39 := hC38.f3
            have hC40 := hC39.f3
            have hC41 := hC40.h2
            refine nrm_sub (l' := [(0, u1), (4, (ptr b1 0)), (5, (.int .i64 x2.2.2)), (8, v6), (11, (.int .i64 x11)), (125, (.bool x18))]) ⟨rfl, rfl, rfl, rfl, rfl, rfl, trivial⟩ ?_
            exact ⟨x18, rfl, rfl, hC41⟩
           refine WL_guard rfl rfl ?_
           refine WL_load_box_agg [(.int .i64 x2.2.1.1), (.int .i64 x2.2.1.2)] hC36 3 rfl rfl rfl Try.isAgg25 Try.sizeOf25 rfl rfl ?_
           refine WL_nil ?_
           obtain ⟨x17, hx5, hr13⟩ := bind_some hr13
           refine WA_one 30 (by kernel_rfl) rfl ?_
           refine WL_guard rfl rfl ?_
           refine WL_append_flat (α := Int) hC36 1 rfl (hC36.ro 0 rfl) (Keep.refl _ _) Try.underlying28 ty3 rfl hx5 rfl rfl rfl (fun v12 w25 hC37 => ?_)
           try dsimp only [List.set] at hC37
           refine WL_nil ?_
           obtain ⟨x18, hr14, hr13⟩ := bind_some hr13
           refine WA_one 32 (by kernel_rfl) rfl ?_
           refine WL_guard rfl rfl ?_
           refine WL_call Try.call12 rfl rfl (c_S_IsKept x17 v12 ((hC37.ro 1 rfl).now (Keep.refl _ _)) (x2.2.1.1, x2.2.1.2) x18 hr14) ?_
           intro _ w26 hv12
           obtain ⟨rfl, hB22⟩ := res_bool hv12
           have hC38 := hC37.grow hB22
           refine WL_nil ?_
           refine WA_tk 33 (by kernel_rfl) rfl rfl (fl_pick_t rfl rfl) ?_
           refine WL_pick_t rfl rfl rfl ?_
           refine WL_nil ?_
           refine WA_done (by kernel_rfl) ?_
           have hq13 := Option.some.inj hr13
           subst hq13
           have hC39 := hC38.f3
           have hC40 := hC39.f3
           have hC41 := hC40.h2
           refine nrm_sub (l' := [(0, u1), (4, (ptr b1 0)), (5, (.int .i64 x2.2.2)), (8, v6), (11, (.int .i64 x11)), (125, (.bool x18))]) ⟨rfl, rfl, rfl, rfl, rfl, rfl, trivial⟩ ?_
           exact ⟨x18, rfl, rfl, hC41⟩
          refine WL_guard rfl rfl ?_
          refine WL_load_box_agg [(.int .i64 x2.2.1.1), (.int .i64 x2.2.1.2)] hC30 2 rfl rfl rfl Try.isAgg25 Try.sizeOf25 rfl rfl ?_
          refine WL_nil ?_
          refine WA_one 29 (by kernel_rfl) rfl ?_
          refine WL_guard rfl rfl ?_
          refine WL_buildSlice (vs := [(.int .i64 (w64 (x16 - 1)))]) hC30 Try.underlying28 ty3 rfl rfl rfl rfl (by intro v hv; simp only [List.mem_cons, List.not_mem_nil, or_false] at hv; rcases hv with rfl <;> rfl) rfl rfl (fun b5 w24 hC31 hB21 => ?_)
          have hC32 := hC31.row0 (α := Int)
          have hC33 := hC32.triv (int_val (w64 (x16 - 1)))
          have hC34 := hC33.row1
          have hC35 := hC34.front 1 rfl
          dsimp only [List.eraseIdx, List.cons_append, List.nil_append, List.append_nil] at hC35
          have hC36 : Ctx [] w0 w24 (Item.own (.slice (some ⟨b5, 0, none⟩) 1 1) ([w64 (x16 - 1)] : List Int) :: [Item.own v9 (x13 : (List Int)), Item.own v6 (x4.1 : (List Int)), Item.box b1 [(.int .i64 x2.2.1.1), (.int .i64 x2.2.1.2)]]) := hC35.rowOwn (by simp [maxLen])
          refine WL_nil ?_
          obtain ⟨x17, hx5, hr13⟩ := bind_some hr13
          refine WA_one 30 (by kernel_rfl) rfl ?_
          refine WL_guard rfl rfl ?_
          refine WL_append_flat (α := Int) hC36 1 rfl (hC36.ro 0 rfl) (Keep.refl _ _) Try.underlying28 ty3 rfl hx5 rfl rfl rfl (fun v12 w25 hC37 => ?_)
          try dsimp only [List.set] at hC37
          refine WL_nil ?_
          obtain ⟨x18, hr14, hr13⟩ := bind_some hr13
          refine WA_one 32 (by kernel_rfl) rfl ?_
          refine WL_guard rfl rfl ?_
          refine WL_call Try.call12 rfl rfl (c_S_IsKept x17 v12 ((hC37.ro 1 rfl).now (Keep.refl _ _)) (x2.2.1.1, x2.2.1.2) x18 hr14) ?_
          intro _ w26 hv12
          obtain ⟨rfl, hB22⟩ := res_bool hv12
          have hC38 := hC37.grow hB22
          refine WL_nil ?_
          refine WA_tk 33 (by kernel_rfl) rfl rfl (fl_pick_t rfl rfl) ?_
          refine WL_pick_t rfl rfl rfl ?_
          refine WL_nil ?_
          refine WA_done (by kernel_rfl) ?_
          have hq13 := Option.some.inj hr13
          subst hq13
          have hC39 := hC38.f3
          have hC40 := hC39.f3
          have hC41 := hC40.h2
          refine nrm_sub (l' := [(0, u1), (4, (ptr b1 0)), (5, (.int .i64 x2.2.2)), (8, v6), (11, (.int .i64 x11)), (125, (.bool x18))]) ⟨rfl, rfl, rfl, rfl, rfl, rfl, trivial⟩ ?_
          exact ⟨x18, rfl, rfl, hC41⟩
         refine WL_guard rfl rfl ?_
         refine WL_load_box_agg [(.int .i64 x2.2.1.1), (.int .i64 x2.2.1.2)] hC30 2 rfl rfl rfl Try.isAgg25 Try.sizeOf25 rfl rfl ?_
         refine WL_nil ?_
         refine WA_one 27 (by kernel_rfl) rfl ?_
         refine WL_guard rfl rfl ?_
         refine WL_load ty3 h4 (Keep.refl _ _) rfl rfl (fun v11 h5 => ?_)
         obtain rfl := ro_int h5
         refine WL_nil ?_
         refine WA_takeG 28 rfl (by kernel_rfl) (by kernel_rfl) (by kernel_rfl) rfl rfl rfl (fl_sub rfl rfl) ?_
         refine WL_guard rfl rfl ?_
         refine WL_sub rfl rfl rfl ?_
         refine WL_nil ?_
         refine WA_one 29 (by kernel_rfl) rfl ?_
         refine WL_guard rfl rfl ?_
         refine WL_buildSlice (vs := [(.int .i64 (w64 (x16 - 1)))]) hC30 Try.underlying28 ty3 rfl rfl rfl rfl (by intro v hv; simp only [List.mem_cons, List.not_mem_nil, or_false] at hv; rcases hv with rfl <;> rfl) rfl rfl (fun b5 w24 hC31 hB21 => ?_)
         have hC32 := hC31.row0 (α := Int)
         have hC33 := hC32.triv (int_val (w64 (x16 - 1)))
         have hC34 := hC33.row1
         have hC35 := hC34.front 1 rfl
         dsimp only [List.eraseIdx, List.cons_append, List.nil_append, List.append_nil] at hC35
         have hC36 : Ctx [] w0 w24 (Item.own (.slice (some ⟨b5, 0, none⟩) 1 1) ([w64 (x16 - 1)] : List Int) :: [Item.own v9 (x13 : (List Int)), Item.own v6 (x4.1 : (List Int)), Item.box b1 [(.int .i64 x2.2.1.1), (.int .i64 x2.2.1.2)]]) := hC35.rowOwn (by simp [maxLen])
         refine WL_nil ?_
         obtain ⟨x17, hx5, hr13⟩ := bind_some hr13
         refine WA_one 30 (by kernel_rfl) rfl ?_
         refine WL_guard rfl rfl ?_
         refine WL_append_flat (α := Int) hC36 1 rfl (hC36.ro 0 rfl) (Keep.refl _ _) Try.underlying28 ty3 rfl hx5 rfl rfl rfl (fun v12 w25 hC37 => ?_)
         try dsimp only [List.set] at hC37
         refine WL_nil ?_
         obtain ⟨x18, hr14, hr13⟩ := bind_some hr13
         refine WA_one 32 (by kernel_rfl) rfl ?_
         refine WL_guard rfl rfl ?_
         refine WL_call Try.call12 rfl rfl (c_S_IsKept x17 v12 ((hC37.ro 1 rfl).now (Keep.refl _ _)) (x2.2.1.1, x2.2.1.2) x18 hr14) ?_
         intro _ w26 hv12
         obtain ⟨rfl, hB22⟩ := res_bool hv12
         have hC38 := hC37.grow hB22
         refine WL_nil ?_
         refine WA_tk 33 (by kernel_rfl) rfl rfl (fl_pick_t rfl rfl) ?_
         refine WL_pick_t rfl rfl rfl ?_
         refine WL_nil ?_
         refine WA_done (by kernel_rfl) ?_
         have hq13 := Option.some.inj hr13
         subst hq13
         have hC39 := hC38.f3
         have hC40 := hC39.f3
         have hC41 := hC40.h2
         refine nrm_sub (l' := [(0, u1), (4, (ptr b1 0)), (5, (.int .i64 x2.2.2)), (8, v6), (11, (.int .i64 x11)), (125, (.bool x18))]) ⟨rfl, rfl, rfl, rfl, rfl, rfl, trivial⟩ ?_
         exact ⟨x18, rfl, rfl, hC41⟩
        replace hr13 := ite_f hr13 hc11
        refine WA_takeG 10 rfl (by kernel_rfl) (by kernel_rfl) (by kernel_rfl) rfl rfl rfl (fl_move rfl) ?_
        refine WL_guard rfl rfl ?_
        refine WL_move rfl rfl ?_
        refine WL_nil ?_
        refine WA_takeG 11 rfl (by kernel_rfl) (by kernel_rfl) (by kernel_rfl) rfl rfl rfl (fl_move rfl) ?_
        refine WL_guard rfl rfl ?_
        refine WL_move rfl rfl ?_
        refine WL_nil ?_
        obtain ⟨x19, hx6, hr13⟩ := bind_some hr13
        refine WA_takeG 12 rfl (by kernel_rfl) (by kernel_rfl) (by kernel_rfl) rfl rfl rfl (fl_index Try.underlying28 ty3 (hC30.ro 1 rfl) hx6 rfl rfl) ?_
        refine WL_guard rfl rfl ?_
        refine WL_index Try.underlying28 ty3 (hC30.ro 1 rfl) hx6 rfl rfl rfl (fun b6 o3 h6 => ?_)
        refine WL_nil ?_
        refine WA_takeG 14 rfl (by kernel_rfl) (by kernel_rfl) (by kernel_rfl) rfl rfl rfl (fl_move rfl) ?_
        refine WL_guard rfl rfl ?_
        refine WL_move rfl rfl ?_
        refine WL_nil ?_
        refine WA_takeG 15 rfl (by kernel_rfl) (by kernel_rfl) (by kernel_rfl) rfl rfl rfl (fl_move rfl) ?_
        refine WL_guard rfl rfl ?_
        refine WL_move rfl rfl ?_
        refine WL_nil ?_
        refine WA_takeG 16 rfl (by kernel_rfl) (by kernel_rfl) (by kernel_rfl) rfl rfl rfl (fl_sub rfl rfl) ?_
        refine WL_guard rfl rfl ?_
        refine WL_sub rfl rfl rfl ?_
        refine WL_nil ?_
        obtain ⟨x20, hx7, hr13⟩ := bind_some hr13
        refine WA_takeG 17 rfl (by kernel_rfl) (by kernel_rfl) (by kernel_rfl) rfl rfl rfl (fl_index Try.underlying28 ty3 (hC30.ro 1 rfl) hx7 rfl rfl) ?_
        refine WL_guard rfl rfl ?_
        refine WL_index Try.underlying28 ty3 (hC30.ro 1 rfl) hx7 rfl rfl rfl (fun b7 o4 h7 => ?_)
        refine WL_nil ?_
        refine WA.sub (l' := [(0, u1), (4, (ptr b1 0)), (5, (.int .i64 x2.2.2)), (8, v6), (11, (.int .i64 x11)), (12, v9), (81, (.int .i64 x11)), (82, v6), (83, (.int .i64 (List.length x4.1 : Int))), (84, (.bool (decide (x11 < (List.length x4.1 : Int))))), (87, (.slice (some ⟨b2, 0, none⟩) 0 0)), (88, v6), (89, (.int .i64 x11)), (90, v8), (91, v9), (92, v6), (93, (.int .i64 x11)), (94, (ptr b3 o1)), (95, (.int .i64 x15)), (96, (.int .i64 x2.2.2)), (97, (.bool (decide (x2.2.2 < x15)))), (98, (.bool true)), (99, (.int .i64 x11)), (100, (.bool (decide (x11 = 0)))), (101, (.bool false)), (102, v6), (103, (.int .i64 x11)), (104, (ptr b6 o3)), (106, v6), (107, (.int .i64 x11)), (108, (.int .i64 (w64 (x11 - 1)))), (109, (ptr b7 o4))]) ?_ ⟨rfl, rfl, rfl, rfl, rfl, rfl, rfl, rfl, rfl, rfl, rfl, rfl, rfl, rfl, rfl, rfl, rfl, rfl, rfl, rfl, rfl, rfl, rfl, rfl, rfl, rfl, rfl, rfl, rfl, rfl, rfl, rfl, trivial⟩
        refine WA_postsE [⟨13, [], fun vs => PW.val (.int .i64 x19), []⟩, ⟨18, [], fun vs => PW.val (.int .i64 x20), []⟩] [[], []] 15 rfl (by kernel_rfl) (by kernel_rfl) rfl ?_ ?_
        ·refine StepsE_cons rfl ?_ ?_
         ·intro w27 hB23
          refine DepsE_nil ?_
          refine ⟨_, rfl, ?_⟩
          refine WL_guard rfl rfl ?_
          refine WL_load ty3 h6 (Keep.of hB23) rfl rfl (fun v13 h8 => ?_)
          obtain rfl := ro_int h8
          refine WL_nil ?_
          exact FinE_val (Below.refl _ _) rfl rfl ⟨rfl, rfl⟩
         refine StepsE_cons rfl ?_ ?_
         ·intro w27 hB23
          refine DepsE_nil ?_
          refine ⟨_, rfl, ?_⟩
          refine WL_guard rfl rfl ?_
          refine WL_load ty3 h7 (Keep.of hB23) rfl rfl (fun v14 h9 => ?_)
          obtain rfl := ro_int h9
          refine WL_nil ?_
          exact FinE_val (Below.refl _ _) rfl rfl ⟨rfl, rfl⟩
         exact StepsE_nil
        intro w28 hB24
        refine AllE_cons rfl rfl rfl ?_
        rintro _ _ ⟨rfl, rfl⟩
        refine AllE_cons rfl rfl rfl ?_
        rintro _ _ ⟨rfl, rfl⟩
        refine AllE_nil ?_
        intro hn5 hb5
        have hC42 := hC30.grow hB24
        refine WA_takeG 19 rfl (by kernel_rfl) (by kernel_rfl) (by kernel_rfl) rfl rfl rfl (fl_gtr rfl rfl) ?_
        refine WL_guard rfl rfl ?_
        refine WL_gtr rfl rfl rfl ?_
        refine WL_nil ?_
        refine WA_takeG 20 rfl (by kernel_rfl) (by kernel_rfl) (by kernel_rfl) rfl rfl rfl (fl_pick_f rfl rfl) ?_
        refine WL_guard rfl rfl ?_
        refine WL_pick_f rfl rfl rfl ?_
        refine WL_nil ?_
        refine WA_tk 21 (by kernel_rfl) rfl rfl (fl_pick_t rfl rfl) ?_
        refine WL_pick_t rfl rfl rfl ?_
        refine WL_nil ?_
        refine WA_tk 22 (by kernel_rfl) rfl rfl (fl_move rfl) ?_
        refine WL_move rfl rfl ?_
        refine WL_nil ?_
        refine WA_fork (fun hc12 => ?_) (fun hc12 => ?_)
        ·replace hr13 := ite_t hr13 hc12
         refine WA_takeG 23 rfl (by kernel_rfl) (by kernel_rfl) (by kernel_rfl) rfl rfl rfl (fl_move rfl) ?_
         refine WL_guard rfl rfl ?_
         refine WL_move rfl rfl ?_
         refine WL_nil ?_
         refine WA_takeG 24 rfl (by kernel_rfl) (by kernel_rfl) (by kernel_rfl) rfl rfl rfl (fl_move rfl) ?_
         refine WL_guard rfl rfl ?_
         refine WL_move rfl rfl ?_
         refine WL_nil ?_
         refine WA_takeG 25 rfl (by kernel_rfl) (by kernel_rfl) (by kernel_rfl) rfl rfl rfl (fl_move rfl) ?_
         refine WL_guard rfl rfl ?_
         refine WL_move rfl rfl ?_
         refine WL_nil ?_
         obtain ⟨x21, hx8, hr13⟩ := bind_some hr13
         refine WA_takeG 26 rfl (by kernel_rfl) (by kernel_rfl) (by kernel_rfl) rfl rfl rfl (fl_index Try.underlying28 ty3 (hC42.ro 1 rfl) hx8 rfl rfl) ?_
         refine WL_guard rfl rfl ?_
         refine WL_index Try.underlying28 ty3 (hC42.ro 1 rfl) hx8 rfl rfl rfl (fun b8 o5 h10 => ?_)
         refine WL_nil ?_
         refine WA_all2 (i := 27) (j := 31) (by kernel_rfl) rfl rfl ?_ ?_
         ·refine WL_guard rfl rfl ?_
          refine WL_load ty3 h10 (Keep.refl _ _) rfl rfl (fun v15 h11 => ?_)
          obtain rfl := ro_int h11
          refine WL_nil ?_
          refine WA_takeG 28 rfl (by kernel_rfl) (by kernel_rfl) (by kernel_rfl) rfl rfl rfl (fl_sub rfl rfl) ?_
          refine WL_guard rfl rfl ?_
          refine WL_sub rfl rfl rfl ?_
          refine WL_nil ?_
          refine WA_all2 (i := 29) (j := 31) (by kernel_rfl) rfl rfl ?_ ?_
          ·refine WL_guard rfl rfl ?_
           refine WL_buildSlice (vs := [(.int .i64 (w64 (x21 - 1)))]) hC42 Try.underlying28 ty3 rfl rfl rfl rfl (by intro v hv; simp only [List.mem_cons, List.not_mem_nil, or_false] at hv; rcases hv with rfl <;> rfl) rfl rfl (fun b9 w29 hC43 hB25 => ?_)
           have hC44 := hC43.row0 (α := Int)
           have hC45 := hC44.triv (int_val (w64 (x21 - 1)))
           have hC46 := hC45.row1
           have hC47 := hC46.front 1 rfl
           dsimp only [List.eraseIdx, List.cons_append, List.nil_append, List.append_nil] at hC47
           have hC48 : Ctx [] w0 w29 (Item.own (.slice (some ⟨b9, 0, none⟩) 1 1) ([w64 (x21 - 1)] : List Int) :: [Item.own v9 (x13 : (List Int)), Item.own v6 (x4.1 : (List Int)), Item.box b1 [(.int .i64 x2.2.1.1), (.int .i64 x2.2.1.2)]]) := hC47.rowOwn (by simp [maxLen])
           refine WL_nil ?_
           refine WA_all2 (i := 30) (j := 31) (by kernel_rfl) rfl rfl ?_ ?_
           ·obtain ⟨x22, hx9, hr13⟩ := bind_some hr13
            refine WL_guard rfl rfl ?_
            refine WL_append_flat (α := Int) hC48 1 rfl (hC48.ro 0 rfl) (Keep.refl _ _) Try.underlying28 ty3 rfl hx9 rfl rfl rfl (fun v16 w30 hC49 => ?_)
            try dsimp only [List.set] at hC49
            refine WL_nil ?_
            refine WA_one 31 (by kernel_rfl) rfl ?_
            refine WL_guard rfl rfl ?_
            refine WL_load_box_agg [(.int .i64 x2.2.1.1), (.int .i64 x2.2.1.2)] hC49 3 rfl rfl rfl Try.isAgg25 Try.sizeOf25 rfl rfl ?_
            refine WL_nil ?_
            obtain ⟨x23, hr15, hr13⟩ := bind_some hr13
            refine WA_one 32 (by kernel_rfl) rfl ?_
            refine WL_guard rfl rfl ?_
            refine WL_call Try.call12 rfl rfl (c_S_IsKept x22 v16 ((hC49.ro 1 rfl).now (Keep.refl _ _)) (x2.2.1.1, x2.2.1.2) x23 hr15) ?_
            intro _ w31 hv13
            obtain ⟨rfl, hB26⟩ := res_bool hv13
            have hC50 := hC49.grow hB26
            refine WL_nil ?_
            refine WA_tk 33 (by kernel_rfl) rfl rfl (fl_pick_t rfl rfl) ?_
            refine WL_pick_t rfl rfl rfl ?_
            refine WL_nil ?_
            refine WA_done (by kernel_rfl) ?_
            have hq14 := Option.some.inj hr13
            subst hq14
            have hC51 := hC50.f3
            have hC52 := hC51.f3
            have hC53 := hC52.h2
            refine nrm_sub (l' := [(0, u1), (4, (ptr b1 0)), (5, (.int .i64 x2.2.2)), (8, v6), (11, (.int .i64 x11)), (125, (.bool x23))]) ⟨rfl, rfl, rfl, rfl, rfl, rfl, trivial⟩ ?_
            exact ⟨x23, rfl, rfl, hC53⟩
           refine WL_guard rfl rfl ?_
           refine WL_load_box_agg [(.int .i64 x2.2.1.1), (.int .i64 x2.2.1.2)] hC48 3 rfl rfl rfl Try.isAgg25 Try.sizeOf25 rfl rfl ?_
           refine WL_nil ?_
           obtain ⟨x22, hx9, hr13⟩ := bind_some hr13
           refine WA_one 30 (by kernel_rfl) rfl ?_
           refine WL_guard rfl rfl ?_
           refine WL_append_flat (α := Int) hC48 1 rfl (hC48.ro 0 rfl) (Keep.refl _ _) Try.underlying28 ty3 rfl hx9 rfl rfl rfl (fun v16 w30 hC49 => ?_)
           try dsimp only [List.set] at hC49
           refine WL_nil ?_
           obtain ⟨x23, hr15, hr13⟩ := bind_some hr13
           refine WA_one 32 (by kernel_rfl) rfl ?_
           refine WL_guard rfl rfl ?_
           refine WL_call Try.call12 rfl rfl (c_S_IsKept x22 v16 ((hC49.ro 1 rfl).now (Keep.refl _ _)) (x2.2.1.1, x2.2.1.2) x23 hr15) ?_
           intro _ w31 hv13
           obtain ⟨rfl, hB26⟩ := res_bool hv13
           have hC50 := hC49.grow hB26
           refine WL_nil ?_
           refine WA_tk 33 (by kernel_rfl) rfl rfl (fl_pick_t rfl rfl) ?_
           refine WL_pick_t rfl rfl rfl ?_
           refine WL_nil ?_
           refine WA_done (by kernel_rfl) ?_
           have hq14 := Option.some.inj hr13
           subst hq14
           have hC51 := hC50.f3
           have hC52 := hC51.f3
           have hC53 := hC52.h2
           refine nrm_sub (l' := [(0, u1), (4, (ptr b1 0)), (5, (.int .i64 x2.2.2)), (8, v6), (11, (.int .i64 x11)), (125, (.bool x23))]) ⟨rfl, rfl, rfl, rfl, rfl, rfl, trivial⟩ ?_
           exact ⟨x23, rfl, rfl, hC53⟩
          refine WL_guard rfl rfl ?_
          refine WL_load_box_agg [(.int .i64 x2.2.1.1), (.int .i64 x2.2.1.2)] hC42 2 rfl rfl rfl Try.isAgg25 Try.sizeOf25 rfl rfl ?_
          refine WL_nil ?_
          refine WA_one 29 (by kernel_rfl) rfl ?_
          refine WL_guard rfl rfl ?_
          refine WL_buildSlice (vs := [(.int .i64 (w64 (x21 - 1)))]) hC42 Try.underlying28 ty3 rfl rfl rfl rfl (by intro v hv; simp only [List.mem_cons, List.not_mem_nil, or_false] at hv; rcases hv with rfl <;> rfl) rfl rfl (fun b9 w29 hC43 hB25 => ?_)
          have hC44 := hC43.row0 (α := Int)
          have hC45 := hC44.triv (int_val (w64 (x21 - 1)))
          have hC46 := hC45.row1
          have hC47 := hC46.front 1 rfl
          dsimp only [List.eraseIdx, List.cons_append, List.nil_append, List.append_nil] at hC47
          have hC48 : Ctx [] w0 w29 (Item.own (.slice (some ⟨b9, 0, none⟩) 1 1) ([w64 (x21 - 1)] : List Int) :: [Item.own v9 (x13 : (List Int)), Item.own v6 (x4.1 : (List Int)), Item.box b1 [(.int .i64 x2.2.1.1), (.int .i64 x2.2.1.2)]]) := hC47.rowOwn (by simp [maxLen])
          refine WL_nil ?_
          obtain ⟨x22, hx9, hr13⟩ := bind_some hr13
          refine WA_one 30 (by kernel_rfl) rfl ?_
          refine WL_guard rfl rfl ?_
          refine WL_append_flat (α := Int) hC48 1 rfl (hC48.ro 0 rfl) (Keep.refl _ _) Try.underlying28 ty3 rfl hx9 rfl rfl rfl (fun v16 w30 hC49 => ?_)
          try dsimp only [List.set] at hC49
          refine WL_nil ?_
          obtain ⟨x23, hr15, hr13⟩ := bind_some hr13
          refine WA_one 32 (by kernel_rfl) rfl ?_
          refine WL_guard rfl rfl ?_
          refine WL_call Try.call12 rfl rfl (c_S_IsKept x22 v16 ((hC49.ro 1 rfl).now (Keep.refl _ _)) (x2.2.1.1, x2.2.1.2) x23 hr15) ?_
          intro _ w31 hv13
          obtain ⟨rfl, hB26⟩ := res_bool hv13
          have hC50 := hC49.grow hB26
          refine WL_nil ?_
          refine WA_tk 33 (by kernel_rfl) rfl rfl (fl_pick_t rfl rfl) ?_
          refine WL_pick_t rfl rfl rfl ?_
          refine WL_nil ?_
          refine WA_done (by kernel_rfl) ?_
          have hq14 := Option.some.inj hr13
          subst hq14
          have hC51 := hC50.f3
          have hC52 := hC51.f3
          have hC53 := hC52.h2
          refine nrm_sub (l' := [(0, u1), (4, (ptr b1 0)), (5, (.int .i64 x2.2.2)), (8, v6), (11, (.int .i64 x11)), (125, (.bool x23))]) ⟨rfl, rfl, rfl, rfl, rfl, rfl, trivial⟩ ?_
          exact ⟨x23, rfl, rfl, hC53⟩
         refine WL_guard rfl rfl ?_
         refine WL_load_box_agg [(.int .i64 x2.2.1.1), (.int .i64 x2.2.1.2)] hC42 2 rfl rfl rfl Try.isAgg25 Try.sizeOf25 rfl rfl ?_
         refine WL_nil ?_
         refine WA_one 27 (by kernel_rfl) rfl ?_
         refine WL_guard rfl rfl ?_
         refine WL_load ty3 h10 (Keep.refl _ _) rfl rfl (fun v15 h11 => ?_)
         obtain rfl := ro_int h11
         refine WL_nil ?_
         refine WA_takeG 28 rfl (by kernel_rfl) (by kernel_rfl) (by kernel_rfl) rfl rfl rfl (fl_sub rfl rfl) ?_
         refine WL_guard rfl rfl ?_
         refine WL_sub rfl rfl rfl ?_
         refine WL_nil ?_
         refine WA_one 29 (by kernel_rfl) rfl ?_
         refine WL_guard rfl rfl ?_
         refine WL_buildSlice (vs := [(.int .i64 (w64 (x21 - 1)))]) hC42 Try.underlying28 ty3 rfl rfl rfl rfl (by intro v hv; simp only [List.mem_cons, List.not_mem_nil, or_false] at hv; rcases hv with rfl <;> rfl) rfl rfl (fun b9 w29 hC43 hB25 => ?_)
         have hC44 := hC43.row0 (α := Int)
         have hC45 := hC44.triv (int_val (w64 (x21 - 1)))
         have hC46 := hC45.row1
         have hC47 := hC46.front 1 rfl
         dsimp only [List.eraseIdx, List.cons_append, List.nil_append, List.append_nil] at hC47
         have hC48 : Ctx [] w0 w29 (Item.own (.slice (some ⟨b9, 0, none⟩) 1 1) ([w64 (x21 - 1)] : List Int) :: [Item.own v9 (x13 : (List Int)), Item.own v6 (x4.1 : (List Int)), Item.box b1 [(.int .i64 x2.2.1.1), (.int .i64 x2.2.1.2)]]) := hC47.rowOwn (by simp [maxLen])
         refine WL_nil ?_
         obtain ⟨x22, hx9, hr13⟩ := bind_some hr13
         refine WA_one 30 (by kernel_rfl) rfl ?_
         refine WL_guard rfl rfl ?_
         refine WL_append_flat (α := Int) hC48 1 rfl (hC48.ro 0 rfl) (Keep.refl _ _) Try.underlying28 ty3 rfl hx9 rfl rfl rfl (fun v16 w30 hC49 => ?_)
         try dsimp only [List.set] at hC49
         refine WL_nil ?_
         obtain ⟨x23, hr15, hr13⟩ := bind_some hr13
         refine WA_one 32 (by kernel_rfl) rfl ?_
         refine WL_guard rfl rfl ?_
         refine WL_call Try.call12 rfl rfl (c_S_IsKept x22 v16 ((hC49.ro 1 rfl).now (Keep.refl _ _)) (x2.2.1.1, x2.2.1.2) x23 hr15) ?_
         intro _ w31 hv13
         obtain ⟨rfl, hB26⟩ := res_bool hv13
         have hC50 := hC49.grow hB26
         refine WL_nil ?_
         refine WA_tk 33 (by kernel_rfl) rfl rfl (fl_pick_t rfl rfl) ?_
         refine WL_pick_t rfl rfl rfl ?_
         refine WL_nil ?_
         refine WA_done (by kernel_rfl) ?_
         have hq14 := Option.some.inj hr13
         subst hq14
         have hC51 := hC50.f3
         have hC52 := hC51.f3
         have hC53 := hC52.h2
         refine nrm_sub (l' := [(0, u1), (4, (ptr b1 0)), (5, (.int .i64 x2.2.2)), (8, v6), (11, (.int .i64 x11)), (125, (.bool x23))]) ⟨rfl, rfl, rfl, rfl, rfl, rfl, trivial⟩ ?_
         exact ⟨x23, rfl, rfl, hC53⟩
        replace hr13 := ite_f hr13 hc12
        refine WA_sk 23 (by kernel_rfl) rfl rfl rfl rfl (by simp) rfl rfl ?_
        refine WA_sk 24 (by kernel_rfl) rfl rfl rfl rfl (by simp) rfl rfl ?_
        refine WA_sk 25 (by kernel_rfl) rfl rfl rfl rfl (by simp) rfl rfl ?_
        refine WA_sk 26 (by kernel_rfl) rfl rfl rfl rfl (by simp) rfl rfl ?_
        refine WA_sk 27 (by kernel_rfl) rfl rfl rfl rfl (by simp) rfl rfl ?_
        refine WA_sk 28 (by kernel_rfl) rfl rfl rfl rfl (by simp) rfl rfl ?_
        refine WA_sk 29 (by kernel_rfl) rfl rfl rfl rfl (by simp) rfl rfl ?_
        refine WA_sk 30 (by kernel_rfl) rfl rfl rfl rfl (by simp) rfl rfl ?_
        refine WA_sk 31 (by kernel_rfl) rfl rfl rfl rfl (by simp) rfl rfl ?_
        refine WA_sk 32 (by kernel_rfl) rfl rfl rfl rfl (by simp) rfl rfl ?_
        refine WA_tk 33 (by kernel_rfl) rfl rfl (fl_pick_f rfl rfl) ?_
        refine WL_pick_f rfl rfl rfl ?_
        refine WL_nil ?_
        refine WA_done (by kernel_rfl) ?_
        have hq15 := Option.some.inj hr13
        subst hq15
        have hC54 := hC42.f2
        have hC55 := hC54.f2
        have hC56 := hC55.h2
        refine nrm_sub (l' := [(0, u1), (4, (ptr b1 0)), (5, (.int .i64 x2.2.2)), (8, v6), (11, (.int .i64 x11)), (125, (.bool false))]) ⟨rfl, rfl, rfl, rfl, rfl, rfl, trivial⟩ ?_
        exact ⟨false, rfl, rfl, hC56⟩
       replace hr13 := ite_f hr13 hc10
       refine WA_sk 7 (by kernel_rfl) rfl rfl rfl rfl (by simp) rfl rfl ?_
       refine WA_sk 8 (by kernel_rfl) rfl rfl rfl rfl (by simp) rfl rfl ?_
       refine WA_sk 9 (by kernel_rfl) rfl rfl rfl rfl (by simp) rfl rfl ?_
       refine WA_sk 10 (by kernel_rfl) rfl rfl rfl rfl (by simp [undef]) rfl rfl ?_
       refine WA_sk 11 (by kernel_rfl) rfl rfl rfl rfl (by simp [undef]) rfl rfl ?_
       refine WA_sk 12 (by kernel_rfl) rfl rfl rfl rfl (by simp [undef]) rfl rfl ?_
       refine WA_sk 13 (by kernel_rfl) rfl rfl rfl rfl (by simp [undef]) rfl rfl ?_
       refine WA_sk 14 (by kernel_rfl) rfl rfl rfl rfl (by simp [undef]) rfl rfl ?_
       refine WA_sk 15 (by kernel_rfl) rfl rfl rfl rfl (by simp [undef]) rfl rfl ?_
       refine WA_sk 16 (by kernel_rfl) rfl rfl rfl rfl (by simp [undef]) rfl rfl ?_
       refine WA_sk 17 (by kernel_rfl) rfl rfl rfl rfl (by simp [undef]) rfl rfl ?_
       refine WA_sk 18 (by kernel_rfl) rfl rfl rfl rfl (by simp [undef]) rfl rfl ?_
       refine WA_sk 19 (by kernel_rfl) rfl rfl rfl rfl (by simp [undef]) rfl rfl ?_
       refine WA_sk 20 (by kernel_rfl) rfl rfl rfl rfl (by simp) rfl rfl ?_
       refine WA_tk 21 (by kernel_rfl) rfl rfl (fl_pick_f rfl rfl) ?_
       refine WL_pick_f rfl rfl rfl ?_
       refine WL_nil ?_
       refine WA_tk 22 (by kernel_rfl) rfl rfl (fl_move rfl) ?_
       refine WL_move rfl rfl ?_
       refine WL_nil ?_
       refine WA_sk 23 (by kernel_rfl) rfl rfl rfl rfl (by simp) rfl rfl ?_
       refine WA_sk 24 (by kernel_rfl) rfl rfl rfl rfl (by simp) rfl rfl ?_
       refine WA_sk 25 (by kernel_rfl) rfl rfl rfl rfl (by simp) rfl rfl ?_
       refine WA_sk 26 (by kernel_rfl) rfl rfl rfl rfl (by simp) rfl rfl ?_
       refine WA_sk 27 (by kernel_rfl) rfl rfl rfl rfl (by simp) rfl rfl ?_
       refine WA_sk 28 (by kernel_rfl) rfl rfl rfl rfl (by simp) rfl rfl ?_
       refine WA_sk 29 (by kernel_rfl) rfl rfl rfl rfl (by simp) rfl rfl ?_
       refine WA_sk 30 (by kernel_rfl) rfl rfl rfl rfl (by simp) rfl rfl ?_
       refine WA_sk 31 (by kernel_rfl) rfl rfl rfl rfl (by simp) rfl rfl ?_
       refine WA_sk 32 (by kernel_rfl) rfl rfl rfl rfl (by simp) rfl rfl ?_
       refine WA_tk 33 (by kernel_rfl) rfl rfl (fl_pick_f rfl rfl) ?_
       refine WL_pick_f rfl rfl rfl ?_
       refine WL_nil ?_
       refine WA_done (by kernel_rfl) ?_
       have hq16 := Option.some.inj hr13
       subst hq16
       have hC57 := hC30.f2
       have hC58 := hC57.f2
       have hC59 := hC58.h2
       refine nrm_sub (l' := [(0, u1), (4, (ptr b1 0)), (5, (.int .i64 x2.2.2)), (8, v6), (11, (.int .i64 x11)), (125, (.bool false))]) ⟨rfl, rfl, rfl, rfl, rfl, rfl, trivial⟩ ?_
       exact ⟨false, rfl, rfl, hC59⟩
      rintro _ w22 ⟨x14, rfl, rfl, hC29⟩
      try dsimp only at hL2
      refine W_cond rfl (fun hc13 => ?_) (fun hc13 => ?_)
      ·replace hL2 := ite_t hL2 hc13
       refine W_seq_reg ?_
       refine WL_assign rfl rfl ?_
       refine WL_nil ?_
       refine W_ret ?_
       refine blk_ret ?_
       refine nrm_ret ?_
       refine nrm_ret ?_
       refine blk_ret ?_
       refine nrm_ret ?_
       refine nrm_ret ?_
       refine nrm_ret ?_
       have hq17 := Option.some.inj hL2
       subst hq17
       dsimp only at hr7
       have hq18 := Option.some.inj hr7
       subst hq18
       dsimp only at hF
       have hq19 := Option.some.inj hF
       subst hq19
       refine fn_ret1 rfl rfl ?_
       exact ⟨_, rfl, bool_res hC29 _⟩
      replace hL2 := ite_f hL2 hc13
      refine W_skip ?_
      refine blk_normal ?_
      refine nrm_normal ?_
      refine W_reg ?_
      refine WL_move rfl rfl ?_
      refine WL_add rfl rfl rfl ?_
      refine WL_assign rfl rfl ?_
      refine WL_nil ?_
      refine nrm_sub (l' := [(0, u1), (4, (ptr b1 0)), (5, (.int .i64 x2.2.2)), (8, v6), (11, (.int .i64 (w64 (x11 + 1))))]) ⟨rfl, rfl, rfl, rfl, rfl, trivial⟩ ?_
      exact ⟨k2, Nat.lt_succ_self _, w64 (x11 + 1), rfl, hC29, hL2⟩
     replace hL2 := ite_f hL2 hc9
     refine W_exit ?_
     refine nrm_exit ?_
     refine nrm_exit ?_
     refine blk_exit ?_
     have hq20 := Option.some.inj hL2
     subst hq20
     have hC60 := hC23.h0
     refine nrm_sub (l' := [(0, u1)]) ⟨rfl, trivial⟩ ?_
     exact ⟨rfl, rfl, hC60⟩
   rintro l8 _ w32 hs8 ⟨rfl, rfl, hC61⟩
   try dsimp only at hr7
   have hq21 := Option.some.inj hr7
   subst hq21
   refine nrm_subs (l2 := [(0, u1)]) hs8 ⟨rfl, trivial⟩ ?_
   exact ⟨rfl, rfl, hC61⟩
  replace hr7 := ite_f hr7 hc4
  refine W_skip ?_
  have hq22 := Option.some.inj hr7
  subst hq22
  have hC62 := hC8.h0
  refine nrm_sub (l' := [(0, u1)]) ⟨rfl, trivial⟩ ?_
  exact ⟨rfl, rfl, hC62⟩
 rintro l2 _ w10 hs2 ⟨rfl, rfl, hC16⟩
 try dsimp only at hF
 refine nrm_sub' hs2 ?_
 clear hs2
 refine W_seq_reg ?_
 refine WL_move rfl rfl ?_
 obtain ⟨x24, hr16, hF⟩ := bind_some hF
 refine WL_call Try.call13 rfl rfl (c_S_DrawNextTime a1 u1 (g1.now hC16.keep) x24 hr16) ?_
 rintro _ w33 ⟨hB28, v17, v18, v19, F8, F9, F10, rfl, hv14, hv15, hv16, hn6, hb6⟩
 obtain ⟨rfl, rfl⟩ := val_int hv16
 have hC63 := hC16.pushL hB28 (Bs := [Item.own v17 x24.1, Item.own v18 x24.2.1]) (Fs := [F8, F9]) ⟨F8, _, rfl, hv14, F9, _, rfl, hv15, rfl⟩ (by simpa using hn6) (fun b h => hb6 b (by simpa using h))
 have hC64 := hC63.f1
 obtain ⟨rfl, hC65⟩ := st25_own hC64
 refine WL_move rfl rfl ?_
 refine WL_extract rfl rfl rfl ?_
 refine WL_extract rfl rfl rfl ?_
 refine WL_extract rfl rfl rfl ?_
 refine WL_allocK hC65 zero25 rfl rfl (fun b10 w34 hC66 hB29 hN2 => ?_)
 refine WL_assign rfl rfl ?_
 refine WL_store_box_aggK (cs' := [(.int .i64 x24.2.1.1), (.int .i64 x24.2.1.2)]) (new := [(.int .i64 x24.2.1.1), (.int .i64 x24.2.1.2)]) hC66 0 rfl rfl (by intro v hv; simp only [List.mem_cons, List.not_mem_nil, or_false] at hv; rcases hv with rfl | rfl; exact rfl; exact rfl) rfl Try.sizeOf25 rfl rfl (fun w35 hC67 hKp2 => ?_)
 try dsimp only [List.set] at hC67
 have hk4 := Keep.over ((Keep.of hB28).then hB29) (Nat.le_trans (Keep.of hB28).size hN2) hKp2
 have hk5 := Keep.over (Keep.of hB29) hN2 hKp2
 refine WL_assign rfl rfl ?_
 refine WL_nil ?_
 refine W_seq_reg ?_
 refine WL_move rfl rfl ?_
 refine WL_load_box_agg [(.int .i64 x24.2.1.1), (.int .i64 x24.2.1.2)] hC67 0 rfl rfl rfl Try.isAgg25 Try.sizeOf25 rfl rfl ?_
 refine WL_move rfl rfl ?_
 obtain ⟨x25, hr17, hF⟩ := bind_some hF
 refine WL_call Try.call14 rfl rfl (c_M_NextTime x24.1 v17 ((hC67.ro 1 rfl).now (Keep.refl _ _)) (x24.2.1.1, x24.2.1.2) x24.2.2 x25 hr17) ?_
 rintro _ w36 ⟨hB30, v20, v21, F11, F12, rfl, hv17, hv18, hn7, hb7⟩
 obtain ⟨rfl, rfl⟩ := val_int hv17
 obtain ⟨rfl, rfl⟩ := val_bool hv18
 have hC68 := hC67.grow hB30
 refine WL_move rfl rfl ?_
 refine WL_extract rfl rfl rfl ?_
 refine WL_extract rfl rfl rfl ?_
 refine WL_assign rfl rfl ?_
 refine WL_assign rfl rfl ?_
 refine WL_nil ?_
 refine W_seq_reg ?_
 refine WL_move rfl rfl ?_
 refine WL_load_box_agg [(.int .i64 x24.2.1.1), (.int .i64 x24.2.1.2)] hC68 0 rfl rfl rfl Try.isAgg25 Try.sizeOf25 rfl rfl ?_
 refine WL_move rfl rfl ?_
 obtain ⟨x26, hr18, hF⟩ := bind_some hF
 refine WL_call Try.call15 rfl rfl (c_S_NextTime x24.1 v17 ((hC68.ro 1 rfl).now (Keep.refl _ _)) (x24.2.1.1, x24.2.1.2) x24.2.2 x26 hr18) ?_
 rintro _ w37 ⟨hB31, v22, v23, F13, F14, rfl, hv19, hv20, hn8, hb8⟩
 obtain ⟨rfl, rfl⟩ := val_int hv19
 obtain ⟨rfl, rfl⟩ := val_bool hv20
 have hC69 := hC68.grow hB31
 refine WL_move rfl rfl ?_
 refine WL_extract rfl rfl rfl ?_
 refine WL_extract rfl rfl rfl ?_
 refine WL_assign rfl rfl ?_
 refine WL_assign rfl rfl ?_
 refine WL_nil ?_
 refine W_seq_reg ?_
 refine WL_move rfl rfl ?_
 obtain ⟨x27, hr19, hF⟩ := bind_some hF
 refine WL_call Try.call16 rfl rfl (c_S_DrawIsKept a1 u1 (g1.now hC69.keep) x27 hr19) ?_
 rintro _ w38 ⟨hB32, v24, v25, F15, F16, rfl, hv21, hv22, hn9, hb9⟩
 have hC70 := hC69.pushL hB32 (Bs := [Item.own v24 x27.1, Item.own v25 x27.2]) (Fs := [F15, F16]) ⟨F15, _, rfl, hv21, F16, _, rfl, hv22, rfl⟩ (by simpa using hn9) (fun b h => hb9 b (by simpa using h))
 have hC71 := hC70.f1
 obtain ⟨rfl, hC72⟩ := st25_own hC71
 refine WL_move rfl rfl ?_
 refine WL_extract rfl rfl rfl ?_
 refine WL_extract rfl rfl rfl ?_
 refine WL_allocK hC72 zero25 rfl rfl (fun b11 w39 hC73 hB33 hN3 => ?_)
 refine WL_assign rfl rfl ?_
 refine WL_store_box_aggK (cs' := [(.int .i64 x27.2.1), (.int .i64 x27.2.2)]) (new := [(.int .i64 x27.2.1), (.int .i64 x27.2.2)]) hC73 0 rfl rfl (by intro v hv; simp only [List.mem_cons, List.not_mem_nil, or_false] at hv; rcases hv with rfl | rfl; exact rfl; exact rfl) rfl Try.sizeOf25 rfl rfl (fun w40 hC74 hKp3 => ?_)
 try dsimp only [List.set] at hC74
 have hk6 := Keep.over ((((hk4.then hB30).then hB31).then hB32).then hB33) (Nat.le_trans (((hk4.then hB30).then hB31).then hB32).size hN3) hKp3
 have hk7 := Keep.over ((((hk5.then hB30).then hB31).then hB32).then hB33) (Nat.le_trans (((hk5.then hB30).then hB31).then hB32).size hN3) hKp3
 have hk8 := Keep.over ((((Keep.of hB30).then hB31).then hB32).then hB33) (Nat.le_trans (((Keep.of hB30).then hB31).then hB32).size hN3) hKp3
 have hk9 := Keep.over (((Keep.of hB31).then hB32).then hB33) (Nat.le_trans ((Keep.of hB31).then hB32).size hN3) hKp3
 have hk10 := Keep.over ((Keep.of hB32).then hB33) (Nat.le_trans (Keep.of hB32).size hN3) hKp3
 have hk11 := Keep.over (Keep.of hB33) hN3 hKp3
 refine WL_nil ?_
 refine W_seq_reg ?_
 refine WL_move rfl rfl ?_
 obtain ⟨x28, hr20, hF⟩ := bind_some hF
 refine WL_call Try.call17 rfl rfl (c_S_DrawCallsIn a1 u1 (g1.now hC74.keep) x28 hr20) ?_
 rintro _ w41 ⟨hB34, v26, v27, v28, F17, F18, F19, rfl, hv23, hv24, hv25, hn10, hb10⟩
 obtain ⟨rfl, rfl⟩ := val_int hv24
 obtain ⟨rfl, rfl⟩ := val_int hv25
 have hC75 := hC74.pushL hB34 (Bs := [Item.own v26 x28.1]) (Fs := [F17]) ⟨F17, _, rfl, hv23, rfl⟩ (by simpa using hn10) (fun b h => hb10 b (by simpa using h))
 refine WL_move rfl rfl ?_
 refine WL_extract rfl rfl rfl ?_
 refine WL_extract rfl rfl rfl ?_
 refine WL_extract rfl rfl rfl ?_
 refine WL_assign rfl rfl ?_
 refine WL_assign rfl rfl ?_
 refine WL_assign rfl rfl ?_
 refine WL_nil ?_
 obtain ⟨r7, hr21, hF⟩ := bind_some hF
 refine W_cut (fun l w => ∃ x29 : Bool, x29 = r7 ∧ l = [(2, (.bool x29))] ∧ Ctx [] w0 w []) ?_ ?_
 ·refine W_drawn 50 rfl hmix (fun w43 hB36 => ?_)
  have hC77 := hC75.grow hB36
  refine WA_tk 0 (by kernel_rfl) rfl rfl (fl_move rfl) ?_
  refine WL_move rfl rfl ?_
  refine WL_nil ?_
  refine WA_tk 1 (by kernel_rfl) rfl rfl (fl_move rfl) ?_
  refine WL_move rfl rfl ?_
  refine WL_nil ?_
  refine WA_tk 2 (by kernel_rfl) rfl rfl (fl_bool_eql Try.underlying4 rfl rfl) ?_
  refine WL_bool_eql Try.underlying4 rfl rfl rfl ?_
  refine WL_nil ?_
  refine WA_tk 3 (by kernel_rfl) rfl rfl (fl_move rfl) ?_
  refine WL_move rfl rfl ?_
  refine WL_nil ?_
  refine WA_fork (fun hc14 => ?_) (fun hc14 => ?_)
  ·replace hr21 := ite_t hr21 hc14
   refine WA_takeG 4 rfl (by kernel_rfl) (by kernel_rfl) (by kernel_rfl) rfl rfl rfl (fl_move rfl) ?_
   refine WL_guard rfl rfl ?_
   refine WL_move rfl rfl ?_
   refine WL_nil ?_
   refine WA_takeG 5 rfl (by kernel_rfl) (by kernel_rfl) (by kernel_rfl) rfl rfl rfl (fl_move rfl) ?_
   refine WL_guard rfl rfl ?_
   refine WL_move rfl rfl ?_
   refine WL_nil ?_
   refine WA_takeG 6 rfl (by kernel_rfl) (by kernel_rfl) (by kernel_rfl) rfl rfl rfl (fl_eql rfl rfl) ?_
   refine WL_guard rfl rfl ?_
   refine WL_eql rfl rfl rfl ?_
   refine WL_nil ?_
   refine WA_tk 7 (by kernel_rfl) rfl rfl (fl_pick_t rfl rfl) ?_
   refine WL_pick_t rfl rfl rfl ?_
   refine WL_nil ?_
   refine WA_tk 8 (by kernel_rfl) rfl rfl (fl_move rfl) ?_
   refine WL_move rfl rfl ?_
   refine WL_nil ?_
   refine WA_fork (fun hc15 => ?_) (fun hc15 => ?_)
   ·replace hr21 := ite_t hr21 hc15
    refine WA_takeG 9 rfl (by kernel_rfl) (by kernel_rfl) (by kernel_rfl) rfl rfl rfl (fl_move rfl) ?_
    refine WL_guard rfl rfl ?_
    refine WL_move rfl rfl ?_
    refine WL_nil ?_
    refine WA_takeG 10 rfl (by kernel_rfl) (by kernel_rfl) (by kernel_rfl) rfl rfl rfl (fl_not rfl) ?_
    refine WL_guard rfl rfl ?_
    refine WL_not rfl rfl ?_
    refine WL_nil ?_
    refine WA_takeG 11 rfl (by kernel_rfl) (by kernel_rfl) (by kernel_rfl) rfl rfl rfl (fl_move rfl) ?_
    refine WL_guard rfl rfl ?_
    refine WL_move rfl rfl ?_
    refine WL_nil ?_
    refine WA_fork (fun hc16 => ?_) (fun hc16 => ?_)
    ·replace hr21 := ite_t hr21 hc16
     refine WA_sk 12 (by kernel_rfl) rfl rfl rfl rfl (by simp) rfl rfl ?_
     refine WA_sk 13 (by kernel_rfl) rfl rfl rfl rfl (by simp) rfl rfl ?_
     refine WA_sk 14 (by kernel_rfl) rfl rfl rfl rfl (by simp) rfl rfl ?_
     refine WA_sk 15 (by kernel_rfl) rfl rfl rfl rfl (by simp) rfl rfl ?_
     refine WA_sk 16 (by kernel_rfl) rfl rfl rfl rfl (by simp) rfl rfl ?_
     refine WA_sk 17 (by kernel_rfl) rfl rfl rfl rfl (by simp) rfl rfl ?_
     refine WA_sk 18 (by kernel_rfl) rfl rfl rfl rfl (by simp) rfl rfl ?_
     refine WA_sk 19 (by kernel_rfl) rfl rfl rfl rfl (by simp) rfl rfl ?_
     refine WA_takeG 20 rfl (by kernel_rfl) (by kernel_rfl) (by kernel_rfl) rfl rfl rfl (fl_pick_t rfl rfl) ?_
     refine WL_guard rfl rfl ?_
     refine WL_pick_t rfl rfl rfl ?_
     refine WL_nil ?_
     refine WA_tk 21 (by kernel_rfl) rfl rfl (fl_pick_t rfl rfl) ?_
     refine WL_pick_t rfl rfl rfl ?_
     refine WL_nil ?_
     refine WA_tk 22 (by kernel_rfl) rfl rfl (fl_move rfl) ?_
     refine WL_move rfl rfl ?_
     refine WL_nil ?_
     refine WA_takeG 23 rfl (by kernel_rfl) (by kernel_rfl) (by kernel_rfl) rfl rfl rfl (fl_move rfl) ?_
     refine WL_guard rfl rfl ?_
     refine WL_move rfl rfl ?_
     refine WL_nil ?_
     refine WA_takeG 26 rfl (by kernel_rfl) (by kernel_rfl) (by kernel_rfl) rfl rfl rfl (fl_move rfl) ?_
     refine WL_guard rfl rfl ?_
     refine WL_move rfl rfl ?_
     refine WL_nil ?_
     obtain ⟨x30, hr22, hr21⟩ := bind_some hr21
     refine WA.sub (l' := [(0, u1), (13, v17), (14, (ptr b10 0)), (15, (.int .i64 x24.2.2)), (16, (.int .i64 x25.1)), (17, (.bool x25.2)), (18, (.int .i64 x26.1)), (19, (.bool x26.2)), (20, v24), (21, (ptr b11 0)), (22, v26), (23, (.int .i64 x28.2.1)), (24, (.int .i64 x28.2.2)), (126, (.tuple #[v17, (.agg #[(.int .i64 x24.2.1.1), (.int .i64 x24.2.1.2)]), (.int .i64 x24.2.2)])), (127, u1), (128, (.tuple #[v17, (.agg #[(.int .i64 x24.2.1.1), (.int .i64 x24.2.1.2)]), (.int .i64 x24.2.2)])), (129, v17), (130, (.agg #[(.int .i64 x24.2.1.1), (.int .i64 x24.2.1.2)])), (131, (.int .i64 x24.2.2)), (132, (.tuple #[(.int .i64 x25.1), (.bool x25.2)])), (133, v17), (134, (.agg #[(.int .i64 x24.2.1.1), (.int .i64 x24.2.1.2)])), (135, (.int .i64 x24.2.2)), (136, (.tuple #[(.int .i64 x25.1), (.bool x25.2)])), (137, (.int .i64 x25.1)), (138, (.bool x25.2)), (139, (.tuple #[(.int .i64 x26.1), (.bool x26.2)])), (140, v17), (141, (.agg #[(.int .i64 x24.2.1.1), (.int .i64 x24.2.1.2)])), (142, (.int .i64 x24.2.2)), (143, (.tuple #[(.int .i64 x26.1), (.bool x26.2)])), (144, (.int .i64 x26.1)), (145, (.bool x26.2)), (146, (.tuple #[v24, (.agg #[(.int .i64 x27.2.1), (.int .i64 x27.2.2)])])), (147, u1), (148, (.tuple #[v24, (.agg #[(.int .i64 x27.2.1), (.int .i64 x27.2.2)])])), (149, v24), (150, (.agg #[(.int .i64 x27.2.1), (.int .i64 x27.2.2)])), (151, (.tuple #[v26, (.int .i64 x28.2.1), (.int .i64 x28.2.2)])), (152, u1), (153, (.tuple #[v26, (.int .i64 x28.2.1), (.int .i64 x28.2.2)])), (154, v26), (155, (.int .i64 x28.2.1)), (156, (.int .i64 x28.2.2)), (157, (.bool x25.2)), (158, (.bool x26.2)), (159, (.bool (decide (x25.2 = x26.2)))), (160, (.bool true)), (161, (.int .i64 x25.1)), (162, (.int .i64 x26.1)), (163, (.bool (decide (x25.1 = x26.1)))), (164, (.bool (decide (x25.1 = x26.1)))), (165, (.bool true)), (166, (.bool x25.2)), (167, (.bool (!x25.2))), (168, (.bool true)), (177, (.bool true)), (178, (.bool true)), (179, (.bool true)), (180, v24), (183, v24)]) ?_ ⟨rfl, rfl, rfl, rfl, rfl, rfl, rfl, rfl, rfl, rfl, rfl, rfl, rfl, rfl, rfl, rfl, rfl, rfl, rfl, rfl, rfl, rfl, rfl, rfl, rfl, rfl, rfl, rfl, rfl, rfl, rfl, rfl, rfl, rfl, rfl, rfl, rfl, rfl, rfl, rfl, rfl, rfl, rfl, rfl, rfl, rfl, rfl, rfl, rfl, rfl, rfl, rfl, rfl, rfl, rfl, rfl, rfl, rfl, rfl, rfl, rfl, trivial⟩
     refine WA_postsE [⟨24, [], fun vs => PW.val (.agg #[(.int .i64 x27.2.1), (.int .i64 x27.2.2)]), []⟩, ⟨25, [], fun vs => PW.val (.bool x30), []⟩, ⟨27, [], fun vs => PW.val (.agg #[(.int .i64 x27.2.1), (.int .i64 x27.2.2)]), []⟩] [[], [24], []] 22 rfl (by kernel_rfl) (by kernel_rfl) rfl ?_ ?_
     ·refine StepsE_cons rfl ?_ ?_
      ·intro w45 hB38
       refine DepsE_nil ?_
       refine ⟨_, rfl, ?_⟩
       refine WL_guard rfl rfl ?_
       refine WL_load_box_agg [(.int .i64 x27.2.1), (.int .i64 x27.2.2)] (hC77.grow hB38) 1 rfl rfl rfl Try.isAgg25 Try.sizeOf25 rfl rfl ?_
       refine WL_nil ?_
       exact FinE_val (Below.refl _ _) rfl rfl ⟨rfl, rfl⟩
      refine StepsE_cons rfl ?_ ?_
      ·intro w45 hB38
       refine DepsE_cons rfl rfl rfl ?_
       rintro _ _ ⟨rfl, rfl⟩ _
       refine DepsE_nil ?_
       refine ⟨_, rfl, ?_⟩
       refine WL_guard rfl rfl ?_
       refine WL_call Try.call10 rfl rfl (c_M_IsKept x27.1 v24 ((hC77.grow hB38).ro 2 rfl) (x27.2.1, x27.2.2) x30 hr22) ?_
       intro _ w44 hv26
       obtain ⟨rfl, hB37⟩ := res_bool hv26
       refine WL_nil ?_
       exact FinE_val hB37 rfl rfl ⟨rfl, rfl⟩
      refine StepsE_cons rfl ?_ ?_
      ·intro w45 hB38
       refine DepsE_nil ?_
       refine ⟨_, rfl, ?_⟩
       refine WL_guard rfl rfl ?_
       refine WL_load_box_agg [(.int .i64 x27.2.1), (.int .i64 x27.2.2)] (hC77.grow hB38) 1 rfl rfl rfl Try.isAgg25 Try.sizeOf25 rfl rfl ?_
       refine WL_nil ?_
       exact FinE_val (Below.refl _ _) rfl rfl ⟨rfl, rfl⟩
      exact StepsE_nil
     intro w46 hB39
     refine AllE_cons rfl rfl rfl ?_
     rintro _ _ ⟨rfl, rfl⟩
     refine AllE_cons rfl rfl rfl ?_
     rintro _ _ ⟨rfl, rfl⟩
     refine AllE_cons rfl rfl rfl ?_
     rintro _ _ ⟨rfl, rfl⟩
     refine AllE_nil ?_
     intro hn11 hb11
     have hC78 := hC77.grow hB39
     obtain ⟨x31, hr23, hr21⟩ := bind_some hr21
     refine WA_one 28 (by kernel_rfl) rfl ?_
     refine WL_guard rfl rfl ?_
     refine WL_call Try.call12 rfl rfl (c_S_IsKept x27.1 v24 ((hC78.ro 2 rfl).now (Keep.refl _ _)) (x27.2.1, x27.2.2) x31 hr23) ?_
     intro _ w47 hv27
     obtain ⟨rfl, hB40⟩ := res_bool hv27
     have hC79 := hC78.grow hB40
     refine WL_nil ?_
     refine WA_takeG 29 rfl (by kernel_rfl) (by kernel_rfl) (by kernel_rfl) rfl rfl rfl (fl_bool_eql Try.underlying4 rfl rfl) ?_
     refine WL_guard rfl rfl ?_
     refine WL_bool_eql Try.underlying4 rfl rfl rfl ?_
     refine WL_nil ?_
     refine WA_tk 30 (by kernel_rfl) rfl rfl (fl_pick_t rfl rfl) ?_
     refine WL_pick_t rfl rfl rfl ?_
     refine WL_nil ?_
     refine WA_tk 31 (by kernel_rfl) rfl rfl (fl_move rfl) ?_
     refine WL_move rfl rfl ?_
     refine WL_nil ?_
     refine WA_fork (fun hc17 => ?_) (fun hc17 => ?_)
     ·replace hr21 := ite_t hr21 hc17
      refine WA_takeG 32 rfl (by kernel_rfl) (by kernel_rfl) (by kernel_rfl) rfl rfl rfl (fl_move rfl) ?_
      refine WL_guard rfl rfl ?_
      refine WL_move rfl rfl ?_
      refine WL_nil ?_
      refine WA_takeG 33 rfl (by kernel_rfl) (by kernel_rfl) (by kernel_rfl) rfl rfl rfl (fl_move rfl) ?_
      refine WL_guard rfl rfl ?_
      refine WL_move rfl rfl ?_
      refine WL_nil ?_
      refine WA_takeG 34 rfl (by kernel_rfl) (by kernel_rfl) (by kernel_rfl) rfl rfl rfl (fl_move rfl) ?_
      refine WL_guard rfl rfl ?_
      refine WL_move rfl rfl ?_
      refine WL_nil ?_
      refine WA_takeG 36 rfl (by kernel_rfl) (by kernel_rfl) (by kernel_rfl) rfl rfl rfl (fl_move rfl) ?_
      refine WL_guard rfl rfl ?_
      refine WL_move rfl rfl ?_
      refine WL_nil ?_
      refine WA_takeG 37 rfl (by kernel_rfl) (by kernel_rfl) (by kernel_rfl) rfl rfl rfl (fl_move rfl) ?_
      refine WL_guard rfl rfl ?_
      refine WL_move rfl rfl ?_
      refine WL_nil ?_
      refine WA_takeG 38 rfl (by kernel_rfl) (by kernel_rfl) (by kernel_rfl) rfl rfl rfl (fl_move rfl) ?_
      refine WL_guard rfl rfl ?_
      refine WL_move rfl rfl ?_
      refine WL_nil ?_
      obtain ⟨x32, hr24, hr21⟩ := bind_some hr21
      refine WA_one 35 (by kernel_rfl) rfl ?_
      refine WL_guard rfl rfl ?_
      refine WL_call Try.call18 rfl rfl (c_M_CallsIn x28.1 v26 ((hC79.ro 0 rfl).now (Keep.refl _ _)) x28.2.1 x28.2.2 x32 hr24) ?_
      intro _ w48 hv28
      obtain ⟨rfl, hB41⟩ := res_int hv28
      have hC80 := hC79.grow hB41
      refine WL_nil ?_
      obtain ⟨x33, hr25, hr21⟩ := bind_some hr21
      refine WA_one 39 (by kernel_rfl) rfl ?_
      refine WL_guard rfl rfl ?_
      refine WL_call Try.call11 rfl rfl (c_S_CallsIn x28.1 v26 ((hC80.ro 0 rfl).now (Keep.refl _ _)) x28.2.1 x28.2.2 x33 hr25) ?_
      intro _ w49 hv29
      obtain ⟨rfl, hB42⟩ := res_int hv29
      have hC81 := hC80.grow hB42
      refine WL_nil ?_
      refine WA_takeG 40 rfl (by kernel_rfl) (by kernel_rfl) (by kernel_rfl) rfl rfl rfl (fl_eql rfl rfl) ?_
      refine WL_guard rfl rfl ?_
      refine WL_eql rfl rfl rfl ?_
      refine WL_nil ?_
      refine WA_tk 41 (by kernel_rfl) rfl rfl (fl_pick_t rfl rfl) ?_
      refine WL_pick_t rfl rfl rfl ?_
      refine WL_nil ?_
      refine WA_tk 42 (by kernel_rfl) rfl rfl (fl_move rfl) ?_
      refine WL_move rfl rfl ?_
      refine WL_nil ?_
      refine WA_fork (fun hc18 => ?_) (fun hc18 => ?_)
      ·replace hr21 := ite_t hr21 hc18
       obtain ⟨x34, hr26, hr21⟩ := bind_some hr21
       refine WA.sub (l' := [(0, u1), (13, v17), (14, (ptr b10 0)), (15, (.int .i64 x24.2.2)), (16, (.int .i64 x25.1)), (17, (.bool x25.2)), (18, (.int .i64 x26.1)), (19, (.bool x26.2)), (20, v24), (21, (ptr b11 0)), (22, v26), (23, (.int .i64 x28.2.1)), (24, (.int .i64 x28.2.2)), (126, (.tuple #[v17, (.agg #[(.int .i64 x24.2.1.1), (.int .i64 x24.2.1.2)]), (.int .i64 x24.2.2)])), (127, u1), (128, (.tuple #[v17, (.agg #[(.int .i64 x24.2.1.1), (.int .i64 x24.2.1.2)]), (.int .i64 x24.2.2)])), (129, v17), (130, (.agg #[(.int .i64 x24.2.1.1), (.int .i64 x24.2.1.2)])), (131, (.int .i64 x24.2.2)), (132, (.tuple #[(.int .i64 x25.1), (.bool x25.2)])), (133, v17), (134, (.agg #[(.int .i64 x24.2.1.1), (.int .i64 x24.2.1.2)])), (135, (.int .i64 x24.2.2)), (136, (.tuple #[(.int .i64 x25.1), (.bool x25.2)])), (137, (.int .i64 x25.1)), (138, (.bool x25.2)), (139, (.tuple #[(.int .i64 x26.1), (.bool x26.2)])), (140, v17), (141, (.agg #[(.int .i64 x24.2.1.1), (.int .i64 x24.2.1.2)])), (142, (.int .i64 x24.2.2)), (143, (.tuple #[(.int .i64 x26.1), (.bool x26.2)])), (144, (.int .i64 x26.1)), (145, (.bool x26.2)), (146, (.tuple #[v24, (.agg #[(.int .i64 x27.2.1), (.int .i64 x27.2.2)])])), (147, u1), (148, (.tuple #[v24, (.agg #[(.int .i64 x27.2.1), (.int .i64 x27.2.2)])])), (149, v24), (150, (.agg #[(.int .i64 x27.2.1), (.int .i64 x27.2.2)])), (151, (.tuple #[v26, (.int .i64 x28.2.1), (.int .i64 x28.2.2)])), (152, u1), (153, (.tuple #[v26, (.int .i64 x28.2.1), (.int .i64 x28.2.2)])), (154, v26), (155, (.int .i64 x28.2.1)), (156, (.int .i64 x28.2.2)), (157, (.bool x25.2)), (158, (.bool x26.2)), (159, (.bool (decide (x25.2 = x26.2)))), (160, (.bool true)), (161, (.int .i64 x25.1)), (162, (.int .i64 x26.1)), (163, (.bool (decide (x25.1 = x26.1)))), (164, (.bool (decide (x25.1 = x26.1)))), (165, (.bool true)), (166, (.bool x25.2)), (167, (.bool (!x25.2))), (168, (.bool true)), (177, (.bool true)), (178, (.bool true)), (179, (.bool true)), (180, v24), (181, (.agg #[(.int .i64 x27.2.1), (.int .i64 x27.2.2)])), (182, (.bool x30)), (183, v24), (184, (.agg #[(.int .i64 x27.2.1), (.int .i64 x27.2.2)])), (185, (.bool x31)), (186, (.bool (decide (x30 = x31)))), (187, (.bool (decide (x30 = x31)))), (188, (.bool true)), (189, v26), (190, (.int .i64 x28.2.1)), (191, (.int .i64 x28.2.2)), (192, (.int .i64 x32)), (193, v26), (194, (.int .i64 x28.2.1)), (195, (.int .i64 x28.2.2)), (196, (.int .i64 x33)), (197, (.bool (decide (x32 = x33)))), (198, (.bool (decide (x32 = x33)))), (199, (.bool true))]) ?_ ⟨rfl, rfl, rfl, rfl, rfl, rfl, rfl, rfl, rfl, rfl, rfl, rfl, rfl, rfl, rfl, rfl, rfl, rfl, rfl, rfl, rfl, rfl, rfl, rfl, rfl, rfl, rfl, rfl, rfl, rfl, rfl, rfl, rfl, rfl, rfl, rfl, rfl, rfl, rfl, rfl, rfl, rfl, rfl, rfl, rfl, rfl, rfl, rfl, rfl, rfl, rfl, rfl, rfl, rfl, rfl, rfl, rfl, rfl, rfl, rfl, rfl, rfl, rfl, rfl, rfl, rfl, rfl, rfl, rfl, rfl, rfl, rfl, rfl, rfl, rfl, rfl, rfl, rfl, rfl, trivial⟩
       refine WA_postsE [⟨43, [], fun vs => PW.val (.agg #[(.int .i64 x27.2.1), (.int .i64 x27.2.2)]), []⟩, ⟨44, [], fun vs => PW.val (.bool x34), []⟩, ⟨45, [], fun vs => PW.val (.agg #[(.int .i64 x27.2.1), (.int .i64 x27.2.2)]), []⟩] [[], [43], []] 4 rfl (by kernel_rfl) (by kernel_rfl) rfl ?_ ?_
       ·refine StepsE_cons rfl ?_ ?_
        ·intro w51 hB44
         refine DepsE_nil ?_
         refine ⟨_, rfl, ?_⟩
         refine WL_guard rfl rfl ?_
         refine WL_load_box_agg [(.int .i64 x27.2.1), (.int .i64 x27.2.2)] (hC81.grow hB44) 1 rfl rfl rfl Try.isAgg25 Try.sizeOf25 rfl rfl ?_
         refine WL_nil ?_
         exact FinE_val (Below.refl _ _) rfl rfl ⟨rfl, rfl⟩
        refine StepsE_cons rfl ?_ ?_
        ·intro w51 hB44
         refine DepsE_cons rfl rfl rfl ?_
         rintro _ _ ⟨rfl, rfl⟩ _
         refine DepsE_nil ?_
         refine ⟨_, rfl, ?_⟩
         refine WL_guard rfl rfl ?_
         refine WL_call Try.call19 rfl rfl (c_M_IsWindow (x27.2.1, x27.2.2) x34 hr26) ?_
         intro _ w50 hv30
         obtain ⟨rfl, hB43⟩ := res_bool hv30
         refine WL_nil ?_
         exact FinE_val hB43 rfl rfl ⟨rfl, rfl⟩
        refine StepsE_cons rfl ?_ ?_
        ·intro w51 hB44
         refine DepsE_nil ?_
         refine ⟨_, rfl, ?_⟩
         refine WL_guard rfl rfl ?_
         refine WL_load_box_agg [(.int .i64 x27.2.1), (.int .i64 x27.2.2)] (hC81.grow hB44) 1 rfl rfl rfl Try.isAgg25 Try.sizeOf25 rfl rfl ?_
         refine WL_nil ?_
         exact FinE_val (Below.refl _ _) rfl rfl ⟨rfl, rfl⟩
        exact StepsE_nil
       intro w52 hB45
       refine AllE_cons rfl rfl rfl ?_
       rintro _ _ ⟨rfl, rfl⟩
       refine AllE_cons rfl rfl rfl ?_
       rintro _ _ ⟨rfl, rfl⟩
       refine AllE_cons rfl rfl rfl ?_
       rintro _ _ ⟨rfl, rfl⟩
       refine AllE_nil ?_
       intro hn12 hb12
       have hC82 := hC81.grow hB45
       obtain ⟨x35, hr27, hr21⟩ := bind_some hr21
       refine WA_one 46 (by kernel_rfl) rfl ?_
       refine WL_guard rfl rfl ?_
       refine WL_call Try.call20 rfl rfl (c_S_IsWindow (x27.2.1, x27.2.2) x35 hr27) ?_
       intro _ w53 hv31
       obtain ⟨rfl, hB46⟩ := res_bool hv31
       have hC83 := hC82.grow hB46
       refine WL_nil ?_
       refine WA_takeG 47 rfl (by kernel_rfl) (by kernel_rfl) (by kernel_rfl) rfl rfl rfl (fl_bool_eql Try.underlying4 rfl rfl) ?_
       refine WL_guard rfl rfl ?_
       refine WL_bool_eql Try.underlying4 rfl rfl rfl ?_
       refine WL_nil ?_
       refine WA_tk 48 (by kernel_rfl) rfl rfl (fl_pick_t rfl rfl) ?_
       refine WL_pick_t rfl rfl rfl ?_
       refine WL_nil ?_
       refine WA_tk 49 (by kernel_rfl) rfl rfl (fl_assign rfl) ?_
       refine WL_assign rfl rfl ?_
       refine WL_nil ?_
       refine WA_done (by kernel_rfl) ?_
       have hq23 := Option.some.inj hr21
       subst hq23
       have hC84 := hC83.h0
       refine nrm_sub (l' := [(2, (.bool (decide (x34 = x35))))]) ⟨rfl, trivial⟩ ?_
       exact ⟨(decide (x34 = x35)), rfl, rfl, hC84⟩
      replace hr21 := ite_f hr21 hc18
      refine WA_sk 43 (by kernel_rfl) rfl rfl rfl rfl (by simp) rfl rfl ?_
      refine WA_sk 44 (by kernel_rfl) rfl rfl rfl rfl (by simp) rfl rfl ?_
      refine WA_sk 45 (by kernel_rfl) rfl rfl rfl rfl (by simp) rfl rfl ?_
      refine WA_sk 46 (by kernel_rfl) rfl rfl rfl rfl (by simp) rfl rfl ?_
      refine WA_sk 47 (by kernel_rfl) rfl rfl rfl rfl (by simp) rfl rfl ?_
      refine WA_tk 48 (by kernel_rfl) rfl rfl (fl_pick_f rfl rfl) ?_
      refine WL_pick_f rfl rfl rfl ?_
      refine WL_nil ?_
      refine WA_tk 49 (by kernel_rfl) rfl rfl (fl_assign rfl) ?_
      refine WL_assign rfl rfl ?_
      refine WL_nil ?_
      refine WA_done (by kernel_rfl) ?_
      have hq24 := Option.some.inj hr21
      subst hq24
      have hC85 := hC81.h0
      refine nrm_sub (l' := [(2, (.bool false))]) ⟨rfl, trivial⟩ ?_
      exact ⟨false, rfl, rfl, hC85⟩
     replace hr21 := ite_f hr21 hc17
     refine WA_sk 32 (by kernel_rfl) rfl rfl rfl rfl (by simp) rfl rfl ?_
     refine WA_sk 33 (by kernel_rfl) rfl rfl rfl rfl (by simp) rfl rfl ?_
     refine WA_sk 34 (by kernel_rfl) rfl rfl rfl rfl (by simp) rfl rfl ?_
     refine WA_sk 35 (by kernel_rfl) rfl rfl rfl rfl (by simp) rfl rfl ?_
     refine WA_sk 36 (by kernel_rfl) rfl rfl rfl rfl (by simp) rfl rfl ?_
     refine WA_sk 37 (by kernel_rfl) rfl rfl rfl rfl (by simp) rfl rfl ?_
     refine WA_sk 38 (by kernel_rfl) rfl rfl rfl rfl (by simp) rfl rfl ?_
     refine WA_sk 39 (by kernel_rfl) rfl rfl rfl rfl (by simp) rfl rfl ?_
     refine WA_sk 40 (by kernel_rfl) rfl rfl rfl rfl (by simp) rfl rfl ?_
     refine WA_tk 41 (by kernel_rfl) rfl rfl (fl_pick_f rfl rfl) ?_
     refine WL_pick_f rfl rfl rfl ?_
     refine WL_nil ?_
     refine WA_tk 42 (by kernel_rfl) rfl rfl (fl_move rfl) ?_
     refine WL_move rfl rfl ?_
     refine WL_nil ?_
     refine WA_sk 43 (by kernel_rfl) rfl rfl rfl rfl (by simp) rfl rfl ?_
     refine WA_sk 44 (by kernel_rfl) rfl rfl rfl rfl (by simp) rfl rfl ?_
     refine WA_sk 45 (by kernel_rfl) rfl rfl rfl rfl (by simp) rfl rfl ?_
     refine WA_sk 46 (by kernel_rfl) rfl rfl rfl rfl (by simp) rfl rfl ?_
     refine WA_sk 47 (by kernel_rfl) rfl rfl rfl rfl (by simp) rfl rfl ?_
     refine WA_tk 48 (by kernel_rfl) rfl rfl (fl_pick_f rfl rfl) ?_
     refine WL_pick_f rfl rfl rfl ?_
     refine WL_nil ?_
     refine WA_tk 49 (by kernel_rfl) rfl rfl (fl_assign rfl) ?_
     refine WL_assign rfl rfl ?_
     refine WL_nil ?_
     refine WA_done (by kernel_rfl) ?_
     have hq25 := Option.some.inj hr21
     subst hq25
     have hC86 := hC79.h0
     refine nrm_sub (l' := [(2, (.bool false))]) ⟨rfl, trivial⟩ ?_
     exact ⟨false, rfl, rfl, hC86⟩
    replace hr21 := ite_f hr21 hc16
    refine WA_takeG 13 rfl (by kernel_rfl) (by kernel_rfl) (by kernel_rfl) rfl rfl rfl (fl_move rfl) ?_
    refine WL_guard rfl rfl ?_
    refine WL_move rfl rfl ?_
    refine WL_nil ?_
    refine WA_takeG 15 rfl (by kernel_rfl) (by kernel_rfl) (by kernel_rfl) rfl rfl rfl (fl_move rfl) ?_
    refine WL_guard rfl rfl ?_
    refine WL_move rfl rfl ?_
    refine WL_nil ?_
    obtain ⟨x36, hx10, hr21⟩ := bind_some hr21
    obtain ⟨x37, hx11, hr21⟩ := bind_some hr21
    refine WA.sub (l' := [(0, u1), (13, v17), (14, (ptr b10 0)), (15, (.int .i64 x24.2.2)), (16, (.int .i64 x25.1)), (17, (.bool x25.2)), (18, (.int .i64 x26.1)), (19, (.bool x26.2)), (20, v24), (21, (ptr b11 0)), (22, v26), (23, (.int .i64 x28.2.1)), (24, (.int .i64 x28.2.2)), (126, (.tuple #[v17, (.agg #[(.int .i64 x24.2.1.1), (.int .i64 x24.2.1.2)]), (.int .i64 x24.2.2)])), (127, u1), (128, (.tuple #[v17, (.agg #[(.int .i64 x24.2.1.1), (.int .i64 x24.2.1.2)]), (.int .i64 x24.2.2)])), (129, v17), (130, (.agg #[(.int .i64 x24.2.1.1), (.int .i64 x24.2.1.2)])), (131, (.int .i64 x24.2.2)), (132, (.tuple #[(.int .i64 x25.1), (.bool x25.2)])), (133, v17), (134, (.agg #[(.int .i64 x24.2.1.1), (.int .i64 x24.2.1.2)])), (135, (.int .i64 x24.2.2)), (136, (.tuple #[(.int .i64 x25.1), (.bool x25.2)])), (137, (.int .i64 x25.1)), (138, (.bool x25.2)), (139, (.tuple #[(.int .i64 x26.1), (.bool x26.2)])), (140, v17), (141, (.agg #[(.int .i64 x24.2.1.1), (.int .i64 x24.2.1.2)])), (142, (.int .i64 x24.2.2)), (143, (.tuple #[(.int .i64 x26.1), (.bool x26.2)])), (144, (.int .i64 x26.1)), (145, (.bool x26.2)), (146, (.tuple #[v24, (.agg #[(.int .i64 x27.2.1), (.int .i64 x27.2.2)])])), (147, u1), (148, (.tuple #[v24, (.agg #[(.int .i64 x27.2.1), (.int .i64 x27.2.2)])])), (149, v24), (150, (.agg #[(.int .i64 x27.2.1), (.int .i64 x27.2.2)])), (151, (.tuple #[v26, (.int .i64 x28.2.1), (.int .i64 x28.2.2)])), (152, u1), (153, (.tuple #[v26, (.int .i64 x28.2.1), (.int .i64 x28.2.2)])), (154, v26), (155, (.int .i64 x28.2.1)), (156, (.int .i64 x28.2.2)), (157, (.bool x25.2)), (158, (.bool x26.2)), (159, (.bool (decide (x25.2 = x26.2)))), (160, (.bool true)), (161, (.int .i64 x25.1)), (162, (.int .i64 x26.1)), (163, (.bool (decide (x25.1 = x26.1)))), (164, (.bool (decide (x25.1 = x26.1)))), (165, (.bool true)), (166, (.bool x25.2)), (167, (.bool (!x25.2))), (168, (.bool false)), (170, v17), (172, (.int .i64 x26.1))]) ?_ ⟨rfl, rfl, rfl, rfl, rfl, rfl, rfl, rfl, rfl, rfl, rfl, rfl, rfl, rfl, rfl, rfl, rfl, rfl, rfl, rfl, rfl, rfl, rfl, rfl, rfl, rfl, rfl, rfl, rfl, rfl, rfl, rfl, rfl, rfl, rfl, rfl, rfl, rfl, rfl, rfl, rfl, rfl, rfl, rfl, rfl, rfl, rfl, rfl, rfl, rfl, rfl, rfl, rfl, rfl, rfl, rfl, rfl, rfl, trivial⟩
    refine WA_postsE [⟨12, [], fun vs => PW.own (([] : List Int) : (List Int)), []⟩, ⟨14, [], fun vs => PW.own (x36 : (List Int)), [12]⟩, ⟨16, [], fun vs => PW.own ([x26.1] : (List Int)), []⟩, ⟨17, [], fun vs => PW.own (x37 : (List Int)), [14]⟩, ⟨18, [], fun vs => PW.val (.agg #[(.int .i64 x24.2.1.1), (.int .i64 x24.2.1.2)]), []⟩] [[], [], [], [16], []] 31 rfl (by kernel_rfl) (by kernel_rfl) rfl ?_ ?_
    ·refine StepsE_cons rfl ?_ ?_
     ·intro w58 hB49
      refine DepsE_nil ?_
      refine ⟨_, rfl, ?_⟩
      refine WL_guard rfl rfl ?_
      refine WL_buildSlice (vs := []) (Ctx.start w58) Try.underlying28 ty3 rfl rfl rfl rfl (by simp) rfl rfl (fun b12 w54 hC87 hB47 => ?_)
      have hC88 := hC87.row0 (α := Int)
      have hC89 := hC88.front 1 rfl
      dsimp only [List.eraseIdx, List.cons_append, List.nil_append, List.append_nil] at hC89
      have hC90 : Ctx [] w58 w54 (Item.own (.slice (some ⟨b12, 0, none⟩) 0 0) (([] : List Int) : List Int) :: []) := hC89.rowOwn (by simp [maxLen])
      refine WL_nil ?_
      exact FinE_ctx hC90 rfl rfl (fun F h => h)
     refine StepsE_use rfl rfl rfl ?_ ?_
     ·intro w58 hB49
      refine DepsE_nil ?_
      refine ⟨_, _, rfl, rfl, ?_⟩
      intro v29 F20 hv32 ho1
      have hC91 := Ctx.local hv32 ho1
      refine WL_guard rfl rfl ?_
      refine WL_append_flat (α := Int) hC91 0 rfl ((hC77.grow hB49).ro 4 rfl) (Keep.refl _ _) Try.underlying28 ty3 rfl hx10 rfl rfl rfl (fun v30 w55 hC92 => ?_)
      try dsimp only [List.set] at hC92
      refine WL_nil ?_
      exact FinE_ctx hC92 rfl rfl (fun F h => h)
     refine StepsE_cons rfl ?_ ?_
     ·intro w58 hB49
      refine DepsE_nil ?_
      refine ⟨_, rfl, ?_⟩
      refine WL_guard rfl rfl ?_
      refine WL_buildSlice (vs := [(.int .i64 x26.1)]) (Ctx.start w58) Try.underlying28 ty3 rfl rfl rfl rfl (by intro v hv; simp only [List.mem_cons, List.not_mem_nil, or_false] at hv; rcases hv with rfl <;> rfl) rfl rfl (fun b13 w56 hC93 hB48 => ?_)
      have hC94 := hC93.row0 (α := Int)
      have hC95 := hC94.triv (int_val (x26.1))
      have hC96 := hC95.row1
      have hC97 := hC96.front 1 rfl
      dsimp only [List.eraseIdx, List.cons_append, List.nil_append, List.append_nil] at hC97
      have hC98 : Ctx [] w58 w56 (Item.own (.slice (some ⟨b13, 0, none⟩) 1 1) ([x26.1] : List Int) :: []) := hC97.rowOwn (by simp [maxLen])
      refine WL_nil ?_
      exact FinE_ctx hC98 rfl rfl (fun F h => h)
     refine StepsE_use rfl rfl rfl ?_ ?_
     ·intro w58 hB49
      refine DepsE_cons rfl rfl rfl ?_
      intro v32 F22 hv34 _
      refine DepsE_nil ?_
      refine ⟨_, _, rfl, rfl, ?_⟩
      intro v31 F21 hv33 ho2
      have hC99 := Ctx.local hv33 ho2
      refine WL_guard rfl rfl ?_
      refine WL_append_flat (α := Int) hC99 0 rfl (ro_of_own hv34) (Keep.refl _ _) Try.underlying28 ty3 rfl hx11 rfl rfl rfl (fun v33 w57 hC100 => ?_)
      try dsimp only [List.set] at hC100
      refine WL_nil ?_
      exact FinE_ctx hC100 rfl rfl (fun F h => h)
     refine StepsE_cons rfl ?_ ?_
     ·intro w58 hB49
      refine DepsE_nil ?_
      refine ⟨_, rfl, ?_⟩
      refine WL_guard rfl rfl ?_
      refine WL_load_box_agg [(.int .i64 x24.2.1.1), (.int .i64 x24.2.1.2)] (hC77.grow hB49) 3 rfl rfl rfl Try.isAgg25 Try.sizeOf25 rfl rfl ?_
      refine WL_nil ?_
      exact FinE_val (Below.refl _ _) rfl rfl ⟨rfl, rfl⟩
     exact StepsE_nil
    intro w59 hB50
    refine AllE_skip rfl ?_
    refine AllE_skip rfl ?_
    refine AllE_cons rfl rfl rfl ?_
    intro v32 F22 hv34
    refine AllE_cons rfl rfl rfl ?_
    intro v34 F23 hv35
    refine AllE_cons rfl rfl rfl ?_
    rintro _ _ ⟨rfl, rfl⟩
    refine AllE_nil ?_
    intro hn13 hb13
    have hC101 := hC77.pushL hB50 (Bs := [Item.own v34 (x37 : (List Int)), Item.own v32 ([x26.1] : (List Int))]) (Fs := [F23, F22]) ⟨F23, _, rfl, hv35, F22, _, rfl, hv34, rfl⟩ (by simpa using hn13) (fun b h => (hb13 b (by simpa using h)).1)
    obtain ⟨x38, hr28, hr21⟩ := bind_some hr21
    refine WA_one 19 (by kernel_rfl) rfl ?_
    refine WL_guard rfl rfl ?_
    refine WL_call Try.call12 rfl rfl (c_S_IsKept x37 v34 ((hC101.ro 0 rfl).now (Keep.refl _ _)) (x24.2.1.1, x24.2.1.2) x38 hr28) ?_
    intro _ w60 hv36
    obtain ⟨rfl, hB51⟩ := res_bool hv36
    have hC102 := hC101.grow hB51
    refine WL_nil ?_
    refine WA_takeG 20 rfl (by kernel_rfl) (by kernel_rfl) (by kernel_rfl) rfl rfl rfl (fl_pick_f rfl rfl) ?_
    refine WL_guard rfl rfl ?_
    refine WL_pick_f rfl rfl rfl ?_
    refine WL_nil ?_
    refine WA_tk 21 (by kernel_rfl) rfl rfl (fl_pick_t rfl rfl) ?_
    refine WL_pick_t rfl rfl rfl ?_
    refine WL_nil ?_
    refine WA_tk 22 (by kernel_rfl) rfl rfl (fl_move rfl) ?_
    refine WL_move rfl rfl ?_
    refine WL_nil ?_
    refine WA_fork (fun hc19 => ?_) (fun hc19 => ?_)
    ·replace hr21 := ite_t hr21 hc19
     refine WA_takeG 23 rfl (by kernel_rfl) (by kernel_rfl) (by kernel_rfl) rfl rfl rfl (fl_move rfl) ?_
     refine WL_guard rfl rfl ?_
     refine WL_move rfl rfl ?_
     refine WL_nil ?_
     refine WA_takeG 26 rfl (by kernel_rfl) (by kernel_rfl) (by kernel_rfl) rfl rfl rfl (fl_move rfl) ?_
     refine WL_guard rfl rfl ?_
     refine WL_move rfl rfl ?_
     refine WL_nil ?_
     obtain ⟨x39, hr29, hr21⟩ := bind_some hr21
     refine WA.sub (l' := [(0, u1), (13, v17), (14, (ptr b10 0)), (15, (.int .i64 x24.2.2)), (16, (.int .i64 x25.1)), (17, (.bool x25.2)), (18, (.int .i64 x26.1)), (19, (.bool x26.2)), (20, v24), (21, (ptr b11 0)), (22, v26), (23, (.int .i64 x28.2.1)), (24, (.int .i64 x28.2.2)), (126, (.tuple #[v17, (.agg #[(.int .i64 x24.2.1.1), (.int .i64 x24.2.1.2)]), (.int .i64 x24.2.2)])), (127, u1), (128, (.tuple #[v17, (.agg #[(.int .i64 x24.2.1.1), (.int .i64 x24.2.1.2)]), (.int .i64 x24.2.2)])), (129, v17), (130, (.agg #[(.int .i64 x24.2.1.1), (.int .i64 x24.2.1.2)])), (131, (.int .i64 x24.2.2)), (132, (.tuple #[(.int .i64 x25.1), (.bool x25.2)])), (133, v17), (134, (.agg #[(.int .i64 x24.2.1.1), (.int .i64 x24.2.1.2)])), (135, (.int .i64 x24.2.2)), (136, (.tuple #[(.int .i64 x25.1), (.bool x25.2)])), (137, (.int .i64 x25.1)), (138, (.bool x25.2)), (139, (.tuple #[(.int .i64 x26.1), (.bool x26.2)])), (140, v17), (141, (.agg #[(.int .i64 x24.2.1.1), (.int .i64 x24.2.1.2)])), (142, (.int .i64 x24.2.2)), (143, (.tuple #[(.int .i64 x26.1), (.bool x26.2)])), (144, (.int .i64 x26.1)), (145, (.bool x26.2)), (146, (.tuple #[v24, (.agg #[(.int .i64 x27.2.1), (.int .i64 x27.2.2)])])), (147, u1), (148, (.tuple #[v24, (.agg #[(.int .i64 x27.2.1), (.int .i64 x27.2.2)])])), (149, v24), (150, (.agg #[(.int .i64 x27.2.1), (.int .i64 x27.2.2)])), (151, (.tuple #[v26, (.int .i64 x28.2.1), (.int .i64 x28.2.2)])), (152, u1), (153, (.tuple #[v26, (.int .i64 x28.2.1), (.int .i64 x28.2.2)])), (154, v26), (155, (.int .i64 x28.2.1)), (156, (.int .i64 x28.2.2)), (157, (.bool x25.2)), (158, (.bool x26.2)), (159, (.bool (decide (x25.2 = x26.2)))), (160, (.bool true)), (161, (.int .i64 x25.1)), (162, (.int .i64 x26.1)), (163, (.bool (decide (x25.1 = x26.1)))), (164, (.bool (decide (x25.1 = x26.1)))), (165, (.bool true)), (166, (.bool x25.2)), (167, (.bool (!x25.2))), (168, (.bool false)), (170, v17), (172, (.int .i64 x26.1)), (173, v32), (174, v34), (175, (.agg #[(.int .i64 x24.2.1.1), (.int .i64 x24.2.1.2)])), (176, (.bool x38)), (177, (.bool x38)), (178, (.bool x38)), (179, (.bool true)), (180, v24), (183, v24)]) ?_ ⟨rfl, rfl, rfl, rfl, rfl, rfl, rfl, rfl, rfl, rfl, rfl, rfl, rfl, rfl, rfl, rfl, rfl, rfl, rfl, rfl, rfl, rfl, rfl, rfl, rfl, rfl, rfl, rfl, rfl, rfl, rfl, rfl, rfl, rfl, rfl, rfl, rfl, rfl, rfl, rfl, rfl, rfl, rfl, rfl, rfl, rfl, rfl, rfl, rfl, rfl, rfl, rfl, rfl, rfl, rfl, rfl, rfl, rfl, rfl, rfl, rfl, rfl, rfl, rfl, rfl, rfl, rfl, trivial⟩
     refine WA_postsE [⟨24, [], fun vs => PW.val (.agg #[(.int .i64 x27.2.1), (.int .i64 x27.2.2)]), []⟩, ⟨25, [], fun vs => PW.val (.bool x39), []⟩, ⟨27, [], fun vs => PW.val (.agg #[(.int .i64 x27.2.1), (.int .i64 x27.2.2)]), []⟩] [[], [24], []] 22 rfl (by kernel_rfl) (by kernel_rfl) rfl ?_ ?_
     ·refine StepsE_cons rfl ?_ ?_
      ·intro w62 hB53
       refine DepsE_nil ?_
       refine ⟨_, rfl, ?_⟩
       refine WL_guard rfl rfl ?_
       refine WL_load_box_agg [(.int .i64 x27.2.1), (.int .i64 x27.2.2)] (hC102.grow hB53) 3 rfl rfl rfl Try.isAgg25 Try.sizeOf25 rfl rfl ?_
       refine WL_nil ?_
       exact FinE_val (Below.refl _ _) rfl rfl ⟨rfl, rfl⟩
      refine StepsE_cons rfl ?_ ?_
      ·intro w62 hB53
       refine DepsE_cons rfl rfl rfl ?_
       rintro _ _ ⟨rfl, rfl⟩ _
       refine DepsE_nil ?_
       refine ⟨_, rfl, ?_⟩
       refine WL_guard rfl rfl ?_
       refine WL_call Try.call10 rfl rfl (c_M_IsKept x27.1 v24 ((hC102.grow hB53).ro 4 rfl) (x27.2.1, x27.2.2) x39 hr29) ?_
       intro _ w61 hv37
       obtain ⟨rfl, hB52⟩ := res_bool hv37
       refine WL_nil ?_
       exact FinE_val hB52 rfl rfl ⟨rfl, rfl⟩
      refine StepsE_cons rfl ?_ ?_
      ·intro w62 hB53
       refine DepsE_nil ?_
       refine ⟨_, rfl, ?_⟩
       refine WL_guard rfl rfl ?_
       refine WL_load_box_agg [(.int .i64 x27.2.1), (.int .i64 x27.2.2)] (hC102.grow hB53) 3 rfl rfl rfl Try.isAgg25 Try.sizeOf25 rfl rfl ?_
       refine WL_nil ?_
       exact FinE_val (Below.refl _ _) rfl rfl ⟨rfl, rfl⟩
      exact StepsE_nil
     intro w63 hB54
     refine AllE_cons rfl rfl rfl ?_
     rintro _ _ ⟨rfl, rfl⟩
     refine AllE_cons rfl rfl rfl ?_
     rintro _ _ ⟨rfl, rfl⟩
     refine AllE_cons rfl rfl rfl ?_
     rintro _ _ ⟨rfl, rfl⟩
     refine AllE_nil ?_
     intro hn14 hb14
     have hC103 := hC102.grow hB54
     obtain ⟨x40, hr30, hr21⟩ := bind_some hr21
     refine WA_one 28 (by kernel_rfl) rfl ?_
     refine WL_guard rfl rfl ?_
     refine WL_call Try.call12 rfl rfl (c_S_IsKept x27.1 v24 ((hC103.ro 4 rfl).now (Keep.refl _ _)) (x27.2.1, x27.2.2) x40 hr30) ?_
     intro _ w65 hv38
     obtain ⟨rfl, hB55⟩ := res_bool hv38
     have hC104 := hC103.grow hB55
     refine WL_nil ?_
     refine WA_takeG 29 rfl (by kernel_rfl) (by kernel_rfl) (by kernel_rfl) rfl rfl rfl (fl_bool_eql Try.underlying4 rfl rfl) ?_
     refine WL_guard rfl rfl ?_
     refine WL_bool_eql Try.underlying4 rfl rfl rfl ?_
     refine WL_nil ?_
     refine WA_tk 30 (by kernel_rfl) rfl rfl (fl_pick_t rfl rfl) ?_
     refine WL_pick_t rfl rfl rfl ?_
     refine WL_nil ?_
     refine WA_tk 31 (by kernel_rfl) rfl rfl (fl_move rfl) ?_
     refine WL_move rfl rfl ?_
     refine WL_nil ?_
     refine WA_fork (fun hc20 => ?_) (fun hc20 => ?_)
     ·replace hr21 := ite_t hr21 hc20
      refine WA_takeG 32 rfl (by kernel_rfl) (by kernel_rfl) (by kernel_rfl) rfl rfl rfl (fl_move rfl) ?_
      refine WL_guard rfl rfl ?_
      refine WL_move rfl rfl ?_
      refine WL_nil ?_
      refine WA_takeG 33 rfl (by kernel_rfl) (by kernel_rfl) (by kernel_rfl) rfl rfl rfl (fl_move rfl) ?_
      refine WL_guard rfl rfl ?_
      refine WL_move rfl rfl ?_
      refine WL_nil ?_
      refine WA_takeG 34 rfl (by kernel_rfl) (by kernel_rfl) (by kernel_rfl) rfl rfl rfl (fl_move rfl) ?_
      refine WL_guard rfl rfl ?_
      refine WL_move rfl rfl ?_
      refine WL_nil ?_
      refine WA_takeG 36 rfl (by kernel_rfl) (by kernel_rfl) (by kernel_rfl) rfl rfl rfl (fl_move rfl) ?_
      refine WL_guard rfl rfl ?_
      refine WL_move rfl rfl ?_
      refine WL_nil ?_
      refine WA_takeG 37 rfl (by kernel_rfl) (by kernel_rfl) (by kernel_rfl) rfl rfl rfl (fl_move rfl) ?_
      refine WL_guard rfl rfl ?_
      refine WL_move rfl rfl ?_
      refine WL_nil ?_
      refine WA_takeG 38 rfl (by kernel_rfl) (by kernel_rfl) (by kernel_rfl) rfl rfl rfl (fl_move rfl) ?_
      refine WL_guard rfl rfl ?_
      refine WL_move rfl rfl ?_
      refine WL_nil ?_
      obtain ⟨x41, hr31, hr21⟩ := bind_some hr21
      refine WA_one 35 (by kernel_rfl) rfl ?_
      refine WL_guard rfl rfl ?_
      refine WL_call Try.call18 rfl rfl (c_M_CallsIn x28.1 v26 ((hC104.ro 2 rfl).now (Keep.refl _ _)) x28.2.1 x28.2.2 x41 hr31) ?_
      intro _ w66 hv39
      obtain ⟨rfl, hB56⟩ := res_int hv39
      have hC105 := hC104.grow hB56
      refine WL_nil ?_
      obtain ⟨x42, hr32, hr21⟩ := bind_some hr21
      refine WA_one 39 (by kernel_rfl) rfl ?_
      refine WL_guard rfl rfl ?_
      refine WL_call Try.call11 rfl rfl (c_S_CallsIn x28.1 v26 ((hC105.ro 2 rfl).now (Keep.refl _ _)) x28.2.1 x28.2.2 x42 hr32) ?_
      intro _ w67 hv40
      obtain ⟨rfl, hB57⟩ := res_int hv40
      have hC106 := hC105.grow hB57
      refine WL_nil ?_
      refine WA_takeG 40 rfl (by kernel_rfl) (by kernel_rfl) (by kernel_rfl) rfl rfl rfl (fl_eql rfl rfl) ?_
      refine WL_guard rfl rfl ?_
      refine WL_eql rfl rfl rfl ?_
      refine WL_nil ?_
      refine WA_tk 41 (by kernel_rfl) rfl rfl (fl_pick_t rfl rfl) ?_
      refine WL_pick_t rfl rfl rfl ?_
      refine WL_nil ?_
      refine WA_tk 42 (by kernel_rfl) rfl rfl (fl_move rfl) ?_
      refine WL_move rfl rfl ?_
      refine WL_nil ?_
      refine WA_fork (fun hc21 => ?_) (fun hc21 => ?_)
      ·replace hr21 := ite_t hr21 hc21
       obtain ⟨x43, hr33, hr21⟩ := bind_some hr21
       refine WA.sub (l' := [(0, u1), (13, v17), (14, (ptr b10 0)), (15, (.int .i64 x24.2.2)), (16, (.int .i64 x25.1)), (17, (.bool x25.2)), (18, (.int .i64 x26.1)), (19, (.bool x26.2)), (20, v24), (21, (ptr b11 0)), (22, v26), (23, (.int .i64 x28.2.1)), (24, (.int .i64 x28.2.2)), (126, (.tuple #[v17, (.agg #[(.int .i64 x24.2.1.1), (.int .i64 x24.2.1.2)]), (.int .i64 x24.2.2)])), (127, u1), (128, (.tuple #[v17, (.agg #[(.int .i64 x24.2.1.1), (.int .i64 x24.2.1.2)]), (.int .i64 x24.2.2)])), (129, v17), (130, (.agg #[(.int .i64 x24.2.1.1), (.int .i64 x24.2.1.2)])), (131, (.int .i64 x24.2.2)), (132, (.tuple #[(.int .i64 x25.1), (.bool x25.2)])), (133, v17), (134, (.agg #[(.int .i64 x24.2.1.1), (.int .i64 x24.2.1.2)])), (135, (.int .i64 x24.2.2)), (136, (.tuple #[(.int .i64 x25.1), (.bool x25.2)])), (137, (.int .i64 x25.1)), (138, (.bool x25.2)), (139, (.tuple #[(.int .i64 x26.1), (.bool x26.2)])), (140, v17), (141, (.agg #[(.int .i64 x24.2.1.1), (.int .i64 x24.2.1.2)])), (142, (.int .i64 x24.2.2)), (143, (.tuple #[(.int .i64 x26.1), (.bool x26.2)])), (144, (.int .i64 x26.1)), (145, (.bool x26.2)), (146, (.tuple #[v24, (.agg #[(.int .i64 x27.2.1), (.int .i64 x27.2.2)])])), (147, u1), (148, (.tuple #[v24, (.agg #[(.int .i64 x27.2.1), (.int .i64 x27.2.2)])])), (149, v24), (150, (.agg #[(.int .i64 x27.2.1), (.int .i64 x27.2.2)])), (151, (.tuple #[v26, (.int .i64 x28.2.1), (.int .i64 x28.2.2)])), (152, u1), (153, (.tuple #[v26, (.int .i64 x28.2.1), (.int .i64 x28.2.2)])), (154, v26), (155, (.int .i64 x28.2.1)), (156, (.int .i64 x28.2.2)), (157, (.bool x25.2)), (158, (.bool x26.2)), (159, (.bool (decide (x25.2 = x26.2)))), (160, (.bool true)), (161, (.int .i64 x25.1)), (162, (.int .i64 x26.1)), (163, (.bool (decide (x25.1 = x26.1)))), (164, (.bool (decide (x25.1 = x26.1)))), (165, (.bool true)), (166, (.bool x25.2)), (167, (.bool (!x25.2))), (168, (.bool false)), (170, v17), (172, (.int .i64 x26.1)), (173, v32), (174, v34), (175, (.agg #[(.int .i64 x24.2.1.1), (.int .i64 x24.2.1.2)])), (176, (.bool x38)), (177, (.bool x38)), (178, (.bool x38)), (179, (.bool true)), (180, v24), (181, (.agg #[(.int .i64 x27.2.1), (.int .i64 x27.2.2)])), (182, (.bool x39)), (183, v24), (184, (.agg #[(.int .i64 x27.2.1), (.int .i64 x27.2.2)])), (185, (.bool x40)), (186, (.bool (decide (x39 = x40)))), (187, (.bool (decide (x39 = x40)))), (188, (.bool true)), (189, v26), (190, (.int .i64 x28.2.1)), (191, (.int .i64 x28.2.2)), (192, (.int .i64 x41)), (193, v26), (194, (.int .i64 x28.2.1)), (195, (.int .i64 x28.2.2)), (196, (.int .i64 x42)), (197, (.bool (decide (x41 = x42)))), (198, (.bool (decide (x41 = x42)))), (199, (.bool true))]) ?_ ⟨rfl, rfl, rfl, rfl, rfl, rfl, rfl, rfl, rfl, rfl, rfl, rfl, rfl, rfl, rfl, rfl, rfl, rfl, rfl, rfl, rfl, rfl, rfl, rfl, rfl, rfl, rfl, rfl, rfl, rfl, rfl, rfl, rfl, rfl, rfl, rfl, rfl, rfl, rfl, rfl, rfl, rfl, rfl, rfl, rfl, rfl, rfl, rfl, rfl, rfl, rfl, rfl, rfl, rfl, rfl, rfl, rfl, rfl, rfl, rfl, rfl, rfl, rfl, rfl, rfl, rfl, rfl, rfl, rfl, rfl, rfl, rfl, rfl, rfl, rfl, rfl, rfl, rfl, rfl, rfl, rfl, rfl, rfl, rfl, rfl, trivial⟩
       refine WA_postsE [⟨43, [], fun vs => PW.val (.agg #[(.int .i64 x27.2.1), (.int .i64 x27.2.2)]), []⟩, ⟨44, [], fun vs => PW.val (.bool x43), []⟩, ⟨45, [], fun vs => PW.val (.agg #[(.int .i64 x27.2.1), (.int .i64 x27.2.2)]), []⟩] [[], [43], []] 4 rfl (by kernel_rfl) (by kernel_rfl) rfl ?_ ?_
       ·refine StepsE_cons rfl ?_ ?_
        ·intro w69 hB59
         refine DepsE_nil ?_
         refine ⟨_, rfl, ?_⟩
         refine WL_guard rfl rfl ?_
         refine WL_load_box_agg [(.int .i64 x27.2.1), (.int .i64 x27.2.2)] (hC106.grow hB59) 3 rfl rfl rfl Try.isAgg25 Try.sizeOf25 rfl rfl ?_
         refine WL_nil ?_
         exact FinE_val (Below.refl _ _) rfl rfl ⟨rfl, rfl⟩
        refine StepsE_cons rfl ?_ ?_
        ·intro w69 hB59
         refine DepsE_cons rfl rfl rfl ?_
         rintro _ _ ⟨rfl, rfl⟩ _
         refine DepsE_nil ?_
         refine ⟨_, rfl, ?_⟩
         refine WL_guard rfl rfl ?_
         refine WL_call Try.call19 rfl rfl (c_M_IsWindow (x27.2.1, x27.2.2) x43 hr33) ?_
         intro _ w68 hv41
         obtain ⟨rfl, hB58⟩ := res_bool hv41
         refine WL_nil ?_
         exact FinE_val hB58 rfl rfl ⟨rfl, rfl⟩
        refine StepsE_cons rfl ?_ ?_
        ·intro w69 hB59
         refine DepsE_nil ?_
         refine ⟨_, rfl, ?_⟩
         refine WL_guard rfl rfl ?_
         refine WL_load_box_agg [(.int .i64 x27.2.1), (.int .i64 x27.2.2)] (hC106.grow hB59) 3 rfl rfl rfl Try.isAgg25 Try.sizeOf25 rfl rfl ?_
         refine WL_nil ?_
         exact FinE_val (Below.refl _ _) rfl rfl ⟨rfl, rfl⟩
        exact StepsE_nil
       intro w70 hB60
       refine AllE_cons rfl rfl rfl ?_
       rintro _ _ ⟨rfl, rfl⟩
       refine AllE_cons rfl rfl rfl ?_
       rintro _ _ ⟨rfl, rfl⟩
       refine AllE_cons rfl rfl rfl ?_
       rintro _ _ ⟨rfl, rfl⟩
       refine AllE_nil ?_
       intro hn15 hb15
       have hC107 := hC106.grow hB60
       obtain ⟨x44, hr34, hr21⟩ := bind_some hr21
       refine WA_one 46 (by kernel_rfl) rfl ?_
       refine WL_guard rfl rfl ?_
       refine WL_call Try.call20 rfl rfl (c_S_IsWindow (x27.2.1, x27.2.2) x44 hr34) ?_
       intro _ w71 hv42
       obtain ⟨rfl, hB61⟩ := res_bool hv42
       have hC108 := hC107.grow hB61
       refine WL_nil ?_
       refine WA_takeG 47 rfl (by kernel_rfl) (by kernel_rfl) (by kernel_rfl) rfl rfl rfl (fl_bool_eql Try.underlying4 rfl rfl) ?_
       refine WL_guard rfl rfl ?_
       refine WL_bool_eql Try.underlying4 rfl rfl rfl ?_
       refine WL_nil ?_
       refine WA_tk 48 (by kernel_rfl) rfl rfl (fl_pick_t rfl rfl) ?_
       refine WL_pick_t rfl rfl rfl ?_
       refine WL_nil ?_
       refine WA_tk 49 (by kernel_rfl) rfl rfl (fl_assign rfl) ?_
       refine WL_assign rfl rfl ?_
       refine WL_nil ?_
       refine WA_done (by kernel_rfl) ?_
       have hq26 := Option.some.inj hr21
       subst hq26
       have hC109 := hC108.h0
       refine nrm_sub (l' := [(2, (.bool (decide (x43 = x44))))]) ⟨rfl, trivial⟩ ?_
       exact ⟨(decide (x43 = x44)), rfl, rfl, hC109⟩
      replace hr21 := ite_f hr21 hc21
      refine WA_sk 43 (by kernel_rfl) rfl rfl rfl rfl (by simp) rfl rfl ?_
      refine WA_sk 44 (by kernel_rfl) rfl rfl rfl rfl (by simp) rfl rfl ?_
      refine WA_sk 45 (by kernel_rfl) rfl rfl rfl rfl (by simp) rfl rfl ?_
      refine WA_sk 46 (by kernel_rfl) rfl rfl rfl rfl (by simp) rfl rfl ?_
      refine WA_sk 47 (by kernel_rfl) rfl rfl rfl rfl (by simp) rfl rfl ?_
      refine WA_tk 48 (by kernel_rfl) rfl rfl (fl_pick_f rfl rfl) ?_
      refine WL_pick_f rfl rfl rfl ?_
      refine WL_nil ?_
      refine WA_tk 49 (by kernel_rfl) rfl rfl (fl_assign rfl) ?_
      refine WL_assign rfl rfl ?_
      refine WL_nil ?_
      refine WA_done (by kernel_rfl) ?_
      have hq27 := Option.some.inj hr21
      subst hq27
      have hC110 := hC106.h0
      refine nrm_sub (l' := [(2, (.bool false))]) ⟨rfl, trivial⟩ ?_
      exact ⟨false, rfl, rfl, hC110⟩
     replace hr21 := ite_f hr21 hc20
     refine WA_sk 32 (by kernel_rfl) rfl rfl rfl rfl (by simp) rfl rfl ?_
     refine WA_sk 33 (by kernel_rfl) rfl rfl rfl rfl (by simp) rfl rfl ?_
     refine WA_sk 34 (by kernel_rfl) rfl rfl rfl rfl (by simp) rfl rfl ?_
     refine WA_sk 35 (by kernel_rfl) rfl rfl rfl rfl (by simp) rfl rfl ?_
     refine WA_sk 36 (by kernel_rfl) rfl rfl rfl rfl (by simp) rfl rfl ?_
     refine WA_sk 37 (by kernel_rfl) rfl rfl rfl rfl (by simp) rfl rfl ?_
     refine WA_sk 38 (by kernel_rfl) rfl rfl rfl rfl (by simp) rfl rfl ?_
     refine WA_sk 39 (by kernel_rfl) rfl rfl rfl rfl (by simp) rfl rfl ?_
     refine WA_sk 40 (by kernel_rfl) rfl rfl rfl rfl (by simp) rfl rfl ?_
     refine WA_tk 41 (by kernel_rfl) rfl rfl (fl_pick_f rfl rfl) ?_
     refine WL_pick_f rfl rfl rfl ?_
     refine WL_nil ?_
     refine WA_tk 42 (by kernel_rfl) rfl rfl (fl_move rfl) ?_
     refine WL_move rfl rfl ?_
     refine WL_nil ?_
     refine WA_sk 43 (by kernel_rfl) rfl rfl rfl rfl (by simp) rfl rfl ?_
     refine WA_sk 44 (by kernel_rfl) rfl rfl rfl rfl (by simp) rfl rfl ?_
     refine WA_sk 45 (by kernel_rfl) rfl rfl rfl rfl (by simp) rfl rfl ?_
     refine WA_sk 46 (by kernel_rfl) rfl rfl rfl rfl (by simp) rfl rfl ?_
     refine WA_sk 47 (by kernel_rfl) rfl rfl rfl rfl (by simp) rfl rfl ?_
     refine WA_tk 48 (by kernel_rfl) rfl rfl (fl_pick_f rfl rfl) ?_
     refine WL_pick_f rfl rfl rfl ?_
     refine WL_nil ?_
     refine WA_tk 49 (by kernel_rfl) rfl rfl (fl_assign rfl) ?_
     refine WL_assign rfl rfl ?_
     refine WL_nil ?_
     refine WA_done (by kernel_rfl) ?_
     have hq28 := Option.some.inj hr21
     subst hq28
     have hC111 := hC104.h0
     refine nrm_sub (l' := [(2, (.bool false))]) ⟨rfl, trivial⟩ ?_
     exact ⟨false, rfl, rfl, hC111⟩
    replace hr21 := ite_f hr21 hc19
    refine WA_sk 23 (by kernel_rfl) rfl rfl rfl rfl (by simp) rfl rfl ?_
    refine WA_sk 24 (by kernel_rfl) rfl rfl rfl rfl (by simp) rfl rfl ?_
    refine WA_sk 25 (by kernel_rfl) rfl rfl rfl rfl (by simp) rfl rfl ?_
    refine WA_sk 26 (by kernel_rfl) rfl rfl rfl rfl (by simp) rfl rfl ?_
    refine WA_sk 27 (by kernel_rfl) rfl rfl rfl rfl (by simp) rfl rfl ?_
    refine WA_sk 28 (by kernel_rfl) rfl rfl rfl rfl (by simp) rfl rfl ?_
    refine WA_sk 29 (by kernel_rfl) rfl rfl rfl rfl (by simp) rfl rfl ?_
    refine WA_tk 30 (by kernel_rfl) rfl rfl (fl_pick_f rfl rfl) ?_
    refine WL_pick_f rfl rfl rfl ?_
    refine WL_nil ?_
    refine WA_tk 31 (by kernel_rfl) rfl rfl (fl_move rfl) ?_
    refine WL_move rfl rfl ?_
    refine WL_nil ?_
    refine WA_sk 32 (by kernel_rfl) rfl rfl rfl rfl (by simp) rfl rfl ?_
    refine WA_sk 33 (by kernel_rfl) rfl rfl rfl rfl (by simp) rfl rfl ?_
    refine WA_sk 34 (by kernel_rfl) rfl rfl rfl rfl (by simp) rfl rfl ?_
    refine WA_sk 35 (by kernel_rfl) rfl rfl rfl rfl (by simp) rfl rfl ?_
    refine WA_sk 36 (by kernel_rfl) rfl rfl rfl rfl (by simp) rfl rfl ?_
    refine WA_sk 37 (by kernel_rfl) rfl rfl rfl rfl (by simp) rfl rfl ?_
    refine WA_sk 38 (by kernel_rfl) rfl rfl rfl rfl (by simp) rfl rfl ?_
    refine WA_sk 39 (by kernel_rfl) rfl rfl rfl rfl (by simp) rfl rfl ?_
    refine WA_sk 40 (by kernel_rfl) rfl rfl rfl rfl (by simp) rfl rfl ?_
    refine WA_tk 41 (by kernel_rfl) rfl rfl (fl_pick_f rfl rfl) ?_
    refine WL_pick_f rfl rfl rfl ?_
    refine WL_nil ?_
    refine WA_tk 42 (by kernel_rfl) rfl rfl (fl_move rfl) ?_
    refine WL_move rfl rfl ?_
    refine WL_nil ?_
    refine WA_sk 43 (by kernel_rfl) rfl rfl rfl rfl (by simp) rfl rfl ?_
    refine WA_sk 44 (by kernel_rfl) rfl rfl rfl rfl (by simp) rfl rfl ?_
    refine WA_sk 45 (by kernel_rfl) rfl rfl rfl rfl (by simp) rfl rfl ?_
    refine WA_sk 46 (by kernel_rfl) rfl rfl rfl rfl (by simp) rfl rfl ?_
    refine WA_sk 47 (by kernel_rfl) rfl rfl rfl rfl (by simp) rfl rfl ?_
    refine WA_tk 48 (by kernel_rfl) rfl rfl (fl_pick_f rfl rfl) ?_
    refine WL_pick_f rfl rfl rfl ?_
    refine WL_nil ?_
    refine WA_tk 49 (by kernel_rfl) rfl rfl (fl_assign rfl) ?_
    refine WL_assign rfl rfl ?_
    refine WL_nil ?_
    refine WA_done (by kernel_rfl) ?_
    have hq29 := Option.some.inj hr21
    subst hq29
    have hC112 := hC102.h0
    refine nrm_sub (l' := [(2, (.bool false))]) ⟨rfl, trivial⟩ ?_
    exact ⟨false, rfl, rfl, hC112⟩
   replace hr21 := ite_f hr21 hc15
   refine WA_sk 9 (by kernel_rfl) rfl rfl rfl rfl (by simp) rfl rfl ?_
   refine WA_sk 10 (by kernel_rfl) rfl rfl rfl rfl (by simp) rfl rfl ?_
   refine WA_sk 11 (by kernel_rfl) rfl rfl rfl rfl (by simp) rfl rfl ?_
   refine WA_sk 12 (by kernel_rfl) rfl rfl rfl rfl (by simp [undef]) rfl rfl ?_
   refine WA_sk 13 (by kernel_rfl) rfl rfl rfl rfl (by simp [undef]) rfl rfl ?_
   refine WA_sk 14 (by kernel_rfl) rfl rfl rfl rfl (by simp [undef]) rfl rfl ?_
   refine WA_sk 15 (by kernel_rfl) rfl rfl rfl rfl (by simp [undef]) rfl rfl ?_
   refine WA_sk 16 (by kernel_rfl) rfl rfl rfl rfl (by simp [undef]) rfl rfl ?_
   refine WA_sk 17 (by kernel_rfl) rfl rfl rfl rfl (by simp [undef]) rfl rfl ?_
   refine WA_sk 18 (by kernel_rfl) rfl rfl rfl rfl (by simp [undef]) rfl rfl ?_
   refine WA_sk 19 (by kernel_rfl) rfl rfl rfl rfl (by simp [undef]) rfl rfl ?_
   refine WA_sk 20 (by kernel_rfl) rfl rfl rfl rfl (by simp) rfl rfl ?_
   refine WA_tk 21 (by kernel_rfl) rfl rfl (fl_pick_f rfl rfl) ?_
   refine WL_pick_f rfl rfl rfl ?_
   refine WL_nil ?_
   refine WA_tk 22 (by kernel_rfl) rfl rfl (fl_move rfl) ?_
   refine WL_move rfl rfl ?_
   refine WL_nil ?_
   refine WA_sk 23 (by kernel_rfl) rfl rfl rfl rfl (by simp) rfl rfl ?_
   refine WA_sk 24 (by kernel_rfl) rfl rfl rfl rfl (by simp) rfl rfl ?_
   refine WA_sk 25 (by kernel_rfl) rfl rfl rfl rfl (by simp) rfl rfl ?_
   refine WA_sk 26 (by kernel_rfl) rfl rfl rfl rfl (by simp) rfl rfl ?_
   refine WA_sk 27 (by kernel_rfl) rfl rfl rfl rfl (by simp) rfl rfl ?_
   refine WA_sk 28 (by kernel_rfl) rfl rfl rfl rfl (by simp) rfl rfl ?_
   refine WA_sk 29 (by kernel_rfl) rfl rfl rfl rfl (by simp) rfl rfl ?_
   refine WA_tk 30 (by kernel_rfl) rfl rfl (fl_pick_f rfl rfl) ?_
   refine WL_pick_f rfl rfl rfl ?_
   refine WL_nil ?_
   refine WA_tk 31 (by kernel_rfl) rfl rfl (fl_move rfl) ?_
   refine WL_move rfl rfl ?_
   refine WL_nil ?_
   refine WA_sk 32 (by kernel_rfl) rfl rfl rfl rfl (by simp) rfl rfl ?_
   refine WA_sk 33 (by kernel_rfl) rfl rfl rfl rfl (by simp) rfl rfl ?_
   refine WA_sk 34 (by kernel_rfl) rfl rfl rfl rfl (by simp) rfl rfl ?_
   refine WA_sk 35 (by kernel_rfl) rfl rfl rfl rfl (by simp) rfl rfl ?_
   refine WA_sk 36 (by kernel_rfl) rfl rfl rfl rfl (by simp) rfl rfl ?_
   refine WA_sk 37 (by kernel_rfl) rfl rfl rfl rfl (by simp) rfl rfl ?_
   refine WA_sk 38 (by kernel_rfl) rfl rfl rfl rfl (by simp) rfl rfl ?_
   refine WA_sk 39 (by kernel_rfl) rfl rfl rfl rfl (by simp) rfl rfl ?_
   refine WA_sk 40 (by kernel_rfl) rfl rfl rfl rfl (by simp) rfl rfl ?_
   refine WA_tk 41 (by kernel_rfl) rfl rfl (fl_pick_f rfl rfl) ?_
   refine WL_pick_f rfl rfl rfl ?_
   refine WL_nil ?_
   refine WA_tk 42 (by kernel_rfl) rfl rfl (fl_move rfl) ?_
   refine WL_move rfl rfl ?_
   refine WL_nil ?_
   refine WA_sk 43 (by kernel_rfl) rfl rfl rfl rfl (by simp) rfl rfl ?_
   refine WA_sk 44 (by kernel_rfl) rfl rfl rfl rfl (by simp) rfl rfl ?_
   refine WA_sk 45 (by kernel_rfl) rfl rfl rfl rfl (by simp) rfl rfl ?_
   refine WA_sk 46 (by kernel_rfl) rfl rfl rfl rfl (by simp) rfl rfl ?_
   refine WA_sk 47 (by kernel_rfl) rfl rfl rfl rfl (by simp) rfl rfl ?_
   refine WA_tk 48 (by kernel_rfl) rfl rfl (fl_pick_f rfl rfl) ?_
   refine WL_pick_f rfl rfl rfl ?_
   refine WL_nil ?_
   refine WA_tk 49 (by kernel_rfl) rfl rfl (fl_assign rfl) ?_
   refine WL_assign rfl rfl ?_
   refine WL_nil ?_
   refine WA_done (by kernel_rfl) ?_
   have hq30 := Option.some.inj hr21
   subst hq30
   have hC113 := hC77.h0
   refine nrm_sub (l' := [(2, (.bool false))]) ⟨rfl, trivial⟩ ?_
   exact ⟨false, rfl, rfl, hC113⟩
  replace hr21 := ite_f hr21 hc14
  refine WA_sk 4 (by kernel_rfl) rfl rfl rfl rfl (by simp) rfl rfl ?_
  refine WA_sk 5 (by kernel_rfl) rfl rfl rfl rfl (by simp) rfl rfl ?_
  refine WA_sk 6 (by kernel_rfl) rfl rfl rfl rfl (by simp) rfl rfl ?_
  refine WA_tk 7 (by kernel_rfl) rfl rfl (fl_pick_f rfl rfl) ?_
  refine WL_pick_f rfl rfl rfl ?_
  refine WL_nil ?_
  refine WA_tk 8 (by kernel_rfl) rfl rfl (fl_move rfl) ?_
  refine WL_move rfl rfl ?_
  refine WL_nil ?_
  refine WA_sk 9 (by kernel_rfl) rfl rfl rfl rfl (by simp) rfl rfl ?_
  refine WA_sk 10 (by kernel_rfl) rfl rfl rfl rfl (by simp) rfl rfl ?_
  refine WA_sk 11 (by kernel_rfl) rfl rfl rfl rfl (by simp) rfl rfl ?_
  refine WA_sk 12 (by kernel_rfl) rfl rfl rfl rfl (by simp [undef]) rfl rfl ?_
  refine WA_sk 13 (by kernel_rfl) rfl rfl rfl rfl (by simp [undef]) rfl rfl ?_
  refine WA_sk 14 (by kernel_rfl) rfl rfl rfl rfl (by simp [undef]) rfl rfl ?_
  refine WA_sk 15 (by kernel_rfl) rfl rfl rfl rfl (by simp [undef]) rfl rfl ?_
  refine WA_sk 16 (by kernel_rfl) rfl rfl rfl rfl (by simp [undef]) rfl rfl ?_
  refine WA_sk 17 (by kernel_rfl) rfl rfl rfl rfl (by simp [undef]) rfl rfl ?_
  refine WA_sk 18 (by kernel_rfl) rfl rfl rfl rfl (by simp [undef]) rfl rfl ?_
  refine WA_sk 19 (by kernel_rfl) rfl rfl rfl rfl (by simp [undef]) rfl rfl ?_
  refine WA_sk 20 (by kernel_rfl) rfl rfl rfl rfl (by simp) rfl rfl ?_
  refine WA_tk 21 (by kernel_rfl) rfl rfl (fl_pick_f rfl rfl) ?_
  refine WL_pick_f rfl rfl rfl ?_
  refine WL_nil ?_
  refine WA_tk 22 (by kernel_rfl) rfl rfl (fl_move rfl) ?_
  refine WL_move rfl rfl ?_
  refine WL_nil ?_
  refine WA_sk 23 (by kernel_rfl) rfl rfl rfl rfl (by simp) rfl rfl ?_
  refine WA_sk 24 (by kernel_rfl) rfl rfl rfl rfl (by simp) rfl rfl ?_
  refine WA_sk 25 (by kernel_rfl) rfl rfl rfl rfl (by simp) rfl rfl ?_
  refine WA_sk 26 (by kernel_rfl) rfl rfl rfl rfl (by simp) rfl rfl ?_
  refine WA_sk 27 (by kernel_rfl) rfl rfl rfl rfl (by simp) rfl rfl ?_
  refine WA_sk 28 (by kernel_rfl) rfl rfl rfl rfl (by simp) rfl rfl ?_
  refine WA_sk 29 (by kernel_rfl) rfl rfl rfl rfl (by simp) rfl rfl ?_
  refine WA_tk 30 (by kernel_rfl) rfl rfl (fl_pick_f rfl rfl) ?_
  refine WL_pick_f rfl rfl rfl ?_
  refine WL_nil ?_
  refine WA_tk 31 (by kernel_rfl) rfl rfl (fl_move rfl) ?_
  refine WL_move rfl rfl ?_
  refine WL_nil ?_
  refine WA_sk 32 (by kernel_rfl) rfl rfl rfl rfl (by simp) rfl rfl ?_
  refine WA_sk 33 (by kernel_rfl) rfl rfl rfl rfl (by simp) rfl rfl ?_
  refine WA_sk 34 (by kernel_rfl) rfl rfl rfl rfl (by simp) rfl rfl ?_
  refine WA_sk 35 (by kernel_rfl) rfl rfl rfl rfl (by simp) rfl rfl ?_
  refine WA_sk 36 (by kernel_rfl) rfl rfl rfl rfl (by simp) rfl rfl ?_
  refine WA_sk 37 (by kernel_rfl) rfl rfl rfl rfl (by simp) rfl rfl ?_
  refine WA_sk 38 (by kernel_rfl) rfl rfl rfl rfl (by simp) rfl rfl ?_
  refine WA_sk 39 (by kernel_rfl) rfl rfl rfl rfl (by simp) rfl rfl ?_
  refine WA_sk 40 (by kernel_rfl) rfl rfl rfl rfl (by simp) rfl rfl ?_
  refine WA_tk 41 (by kernel_rfl) rfl rfl (fl_pick_f rfl rfl) ?_
  refine WL_pick_f rfl rfl rfl ?_
  refine WL_nil ?_
  refine WA_tk 42 (by kernel_rfl) rfl rfl (fl_move rfl) ?_
  refine WL_move rfl rfl ?_
  refine WL_nil ?_
  refine WA_sk 43 (by kernel_rfl) rfl rfl rfl rfl (by simp) rfl rfl ?_
  refine WA_sk 44 (by kernel_rfl) rfl rfl rfl rfl (by simp) rfl rfl ?_
  refine WA_sk 45 (by kernel_rfl) rfl rfl rfl rfl (by simp) rfl rfl ?_
  refine WA_sk 46 (by kernel_rfl) rfl rfl rfl rfl (by simp) rfl rfl ?_
  refine WA_sk 47 (by kernel_rfl) rfl rfl rfl rfl (by simp) rfl rfl ?_
  refine WA_tk 48 (by kernel_rfl) rfl rfl (fl_pick_f rfl rfl) ?_
  refine WL_pick_f rfl rfl rfl ?_
  refine WL_nil ?_
  refine WA_tk 49 (by kernel_rfl) rfl rfl (fl_assign rfl) ?_
  refine WL_assign rfl rfl ?_
  refine WL_nil ?_
  refine WA_done (by kernel_rfl) ?_
  have hq31 := Option.some.inj hr21
  subst hq31
  have hC114 := hC77.h0
  refine nrm_sub (l' := [(2, (.bool false))]) ⟨rfl, trivial⟩ ?_
  exact ⟨false, rfl, rfl, hC114⟩
 rintro _ w42 ⟨x29, rfl, rfl, hC76⟩
 try dsimp only at hF
 refine W_ret ?_
 have hq32 := Option.some.inj hF
 subst hq32
 refine fn_ret1 rfl rfl ?_
 exact ⟨_, rfl, bool_res hC76 _⟩

theorem c_Q_szIntS {w0 : World} (a1 : (List Int)) (u1 : Value) (g1 : RO [] w0 u1 a1) (a2 : Int) (rr : Int) (hF : Q.szIntS a1 a2 = some rr) :
 Calls Try.prog 39 [u1, (.int .i64 a2)].toArray w0 fun e w' => ∃ v, e = .returned v ∧ Res w0 rr v w' := by
 refine calls_of_W Try.func39 rfl rfl ?_
 have hC0 := Ctx.start w0
 unfold Q.szIntS at hF
 refine W_seq_reg ?_
 refine WL_assign rfl rfl ?_
 refine WL_nil ?_
 refine W_seq_reg ?_
 refine WL_move rfl rfl ?_
 refine WL_move rfl rfl ?_
 refine WL_len Try.underlying28 g1 rfl rfl ?_
 refine WL_sub rfl rfl rfl ?_
 refine WL_assign rfl rfl ?_
 refine WL_nil ?_
 refine W_seq ?_
 refine W_seq_reg ?_
 refine WL_move rfl rfl ?_
 refine WL_lss rfl rfl rfl ?_
 refine WL_nil ?_
 refine W_cond rfl (fun hc1 => ?_) (fun hc1 => ?_)
 ·replace hF := ite_t hF hc1
  refine W_seq_reg ?_
  refine WL_assign rfl rfl ?_
  refine WL_nil ?_
  refine W_ret ?_
  refine nrm_ret ?_
  have hq1 := Option.some.inj hF
  subst hq1
  refine fn_ret1 rfl rfl ?_
  exact ⟨_, rfl, int_res hC0 _⟩
 replace hF := ite_f hF hc1
 refine W_skip ?_
 refine nrm_normal ?_
 refine W_seq_reg ?_
 refine WL_move rfl rfl ?_
 refine WL_assign rfl rfl ?_
 refine WL_nil ?_
 refine W_ret ?_
 have hq2 := Option.some.inj hF
 subst hq2
 refine fn_ret1 rfl rfl ?_
 exact ⟨_, rfl, int_res hC0 _⟩

theorem c_Q_szAtom {w0 : World} (a1 : (Int × (List Int))) (u1 : Value) (g1 : RO [] w0 u1 a1.2) (a2 : Int) (rr : Int) (hF : Q.szAtom a1 a2 = some rr) :
 Calls Try.prog 56 [(.agg #[(.int .i64 a1.1), u1]), (.int .i64 a2)].toArray w0 fun e w' => ∃ v, e = .returned v ∧ Res w0 rr v w' := by
 refine calls_of_W Try.func56 rfl rfl ?_
 have hC0 := Ctx.start w0
 unfold Q.szAtom at hF
 refine W_seq_reg ?_
 refine WL_boxK (cs := [(.int .i64 a1.1), u1]) hC0 rfl rfl rfl (fun b1 w1 hC1 hB1 hN1 => ?_)
 refine WL_assign rfl rfl ?_
 refine WL_nil ?_
 refine W_seq_reg ?_
 refine WL_field Try.underlying82 rfl rfl (fun w => ⟨_, Try.sizeOf28 w⟩) rfl rfl ?_
 refine WL_load_box hC1 0 rfl rfl Try.isAgg28 rfl rfl ?_
 refine WL_move rfl rfl ?_
 obtain ⟨x1, hr1, hF⟩ := bind_some hF
 refine WL_call Try.call39 rfl rfl (c_Q_szIntS a1.2 u1 (g1.now hC1.keep) a2 x1 hr1) ?_
 intro _ w2 hv1
 obtain ⟨rfl, hB2⟩ := res_int hv1
 have hC2 := hC1.grow hB2
 refine WL_assign rfl rfl ?_
 refine WL_nil ?_
 refine W_seq ?_
 refine W_seq_reg ?_
 refine WL_move rfl rfl ?_
 refine WL_lss rfl rfl rfl ?_
 refine WL_nil ?_
 refine W_cond rfl (fun hc1 => ?_) (fun hc1 => ?_)
 ·replace hF := ite_t hF hc1
  refine W_seq_reg ?_
  refine WL_assign rfl rfl ?_
  refine WL_nil ?_
  refine W_ret ?_
  refine nrm_ret ?_
  have hq1 := Option.some.inj hF
  subst hq1
  refine fn_ret1 rfl rfl ?_
  exact ⟨_, rfl, int_res hC2 _⟩
 replace hF := ite_f hF hc1
 refine W_skip ?_
 refine nrm_normal ?_
 refine W_seq_reg ?_
 refine WL_move rfl rfl ?_
 refine WL_assign rfl rfl ?_
 refine WL_nil ?_
 refine W_ret ?_
 have hq2 := Option.some.inj hF
 subst hq2
 refine fn_ret1 rfl rfl ?_
 exact ⟨_, rfl, int_res hC2 _⟩

theorem c_Q_szAtomS {w0 : World} (a1 : (List (Int × (List Int)))) (u1 : Value) (g1 : RO [] w0 u1 a1) (a2 : Int) (rr : Int) (hF : Q.szAtomS a1 a2 = some rr) :
 Calls Try.prog 40 [u1, (.int .i64 a2)].toArray w0 fun e w' => ∃ v, e = .returned v ∧ Res w0 rr v w' := by
 refine calls_of_W Try.func40 rfl rfl ?_
 have hC0 := Ctx.start w0
 unfold Q.szAtomS at hF
 refine W_seq_reg ?_
 refine WL_assign rfl rfl ?_
 refine WL_nil ?_
 refine W_seq_reg ?_
 refine WL_move rfl rfl ?_
 refine WL_move rfl rfl ?_
 refine WL_len Try.underlying43 g1 rfl rfl ?_
 refine WL_sub rfl rfl rfl ?_
 refine WL_assign rfl rfl ?_
 refine WL_nil ?_
 refine W_seq ?_
 refine W_seq_reg ?_
 refine WL_move rfl rfl ?_
 refine WL_lss rfl rfl rfl ?_
 refine WL_nil ?_
 refine W_cond rfl (fun hc1 => ?_) (fun hc1 => ?_)
 ·replace hF := ite_t hF hc1
  refine W_seq_reg ?_
  refine WL_assign rfl rfl ?_
  refine WL_nil ?_
  refine W_ret ?_
  refine nrm_ret ?_
  have hq1 := Option.some.inj hF
  subst hq1
  refine fn_ret1 rfl rfl ?_
  exact ⟨_, rfl, int_res hC0 _⟩
 replace hF := ite_f hF hc1
 refine W_skip ?_
 refine nrm_normal ?_
 refine W_seq ?_
 refine W_seq_reg ?_
 refine WL_assign rfl rfl ?_
 refine WL_nil ?_
 obtain ⟨r1, hr1, hF⟩ := bind_some hF
 refine W_norm (fun l w => ∃ x3 : Int, .inl x3 = r1 ∧ l = [(1, (.int .i64 x3))] ∧ Below w0.heap.size w0 w ∧ Ctx [] w0 w []) ?_ ?_
 ·refine W_block ?_
  refine W.sub (l' := [(0, u1), (1, (.int .i64 (w64 (a2 - (List.length a1 : Int))))), (5, (.int .i64 0))]) ?_ ⟨rfl, rfl, rfl, trivial⟩
  refine W_loop (fun k l w => ∃ x1 : Int, ∃ x2 : Int, l = [(0, u1), (1, (.int .i64 x1)), (5, (.int .i64 x2))] ∧ Below w0.heap.size w0 w ∧ Ctx [] w0 w [] ∧ Q.szAtomS_l1 a1 k x1 x2 = some r1) FUEL ⟨w64 (a2 - (List.length a1 : Int)), 0, rfl, (Below.refl _ _), hC0, hr1⟩ ?_
  clear hr1
  rintro k1 _ w1 ⟨x1, x2, rfl, hB1, hC1, hL1⟩
  cases k1 with
  | zero => rw [Q.szAtomS_l1] at hL1; cases hL1
  | succ k1 =>
   rw [Q.szAtomS_l1] at hL1
   refine W_seq ?_
   refine W_seq_reg ?_
   refine WL_move rfl rfl ?_
   refine WL_move rfl rfl ?_
   refine WL_len Try.underlying43 g1 rfl rfl ?_
   refine WL_lss rfl rfl rfl ?_
   refine WL_nil ?_
   refine W_cond rfl (fun hc2 => ?_) (fun hc2 => ?_)
   ·replace hL1 := ite_t hL1 hc2
    refine W_skip ?_
    refine nrm_normal ?_
    refine W_seq ?_
    refine W_block ?_
    refine W_seq_reg ?_
    refine WL_move rfl rfl ?_
    refine WL_move rfl rfl ?_
    obtain ⟨x4, hx1, hL1⟩ := bind_some hL1
    refine WL_index Try.underlying43 ty82 g1 hx1 rfl rfl rfl (fun b1 o1 h1 => ?_)
    refine WL_load ty82 h1 hC1.keep rfl rfl (fun v1 h2 => ?_)
    obtain ⟨v2, rfl, h3⟩ := ro_st82 h2
    refine WL_move rfl rfl ?_
    obtain ⟨x5, hr2, hL1⟩ := bind_some hL1
    refine WL_call Try.call56 rfl rfl (c_Q_szAtom x4 v2 (h3.now hC1.keep) x1 x5 hr2) ?_
    intro _ w2 hv1
    obtain ⟨rfl, hB2⟩ := res_int hv1
    have hC2 := hC1.grow hB2
    refine WL_assign rfl rfl ?_
    refine WL_nil ?_
    refine W_seq_reg ?_
    refine WL_move rfl rfl ?_
    refine WL_lss rfl rfl rfl ?_
    refine WL_nil ?_
    refine W_cond rfl (fun hc3 => ?_) (fun hc3 => ?_)
    ·replace hL1 := ite_t hL1 hc3
     refine W_seq_reg ?_
     refine WL_assign rfl rfl ?_
     refine WL_nil ?_
     refine W_ret ?_
     refine blk_ret ?_
     refine nrm_ret ?_
     refine nrm_ret ?_
     refine blk_ret ?_
     refine nrm_ret ?_
     refine nrm_ret ?_
     have hq2 := Option.some.inj hL1
     subst hq2
     dsimp only at hF
     have hq3 := Option.some.inj hF
     subst hq3
     refine fn_ret1 rfl rfl ?_
     exact ⟨_, rfl, int_res hC2 _⟩
    replace hL1 := ite_f hL1 hc3
    refine W_skip ?_
    refine blk_normal ?_
    refine nrm_normal ?_
    refine W_reg ?_
    refine WL_move rfl rfl ?_
    refine WL_add rfl rfl rfl ?_
    refine WL_assign rfl rfl ?_
    refine WL_nil ?_
    refine nrm_sub (l' := [(0, u1), (1, (.int .i64 x5)), (5, (.int .i64 (w64 (x2 + 1))))]) ⟨rfl, rfl, rfl, trivial⟩ ?_
    exact ⟨k1, Nat.lt_succ_self _, x5, w64 (x2 + 1), rfl, ((Keep.of hB1).then hB2).below, hC2, hL1⟩
   replace hL1 := ite_f hL1 hc2
   refine W_exit ?_
   refine nrm_exit ?_
   refine nrm_exit ?_
   refine blk_exit ?_
   have hq4 := Option.some.inj hL1
   subst hq4
   refine nrm_sub (l' := [(1, (.int .i64 x1))]) ⟨rfl, trivial⟩ ?_
   exact ⟨x1, rfl, rfl, (Keep.of hB1).below, hC1⟩
 rintro l2 _ w3 hs2 ⟨x3, rfl, rfl, hB3, hC3⟩
 try dsimp only at hF
 refine nrm_sub' hs2 ?_
 clear hs2
 refine W_seq_reg ?_
 refine WL_move rfl rfl ?_
 refine WL_assign rfl rfl ?_
 refine WL_nil ?_
 refine W_ret ?_
 have hq5 := Option.some.inj hF
 subst hq5
 refine fn_ret1 rfl rfl ?_
 exact ⟨_, rfl, int_res hC3 _⟩

theorem c_Q_szQuery {w0 : World} (a1 : ((List Int) × (List (Int × (List Int))))) (u1 : Value) (g1 : RO [] w0 u1 a1.1) (u2 : Value) (g2 : RO [] w0 u2 a1.2) (a2 : Int) (rr : Int) (hF : Q.szQuery a1 a2 = some rr) :
 Calls Try.prog 21 [(.agg #[u1, u2]), (.int .i64 a2)].toArray w0 fun e w' => ∃ v, e = .returned v ∧ Res w0 rr v w' := by
 refine calls_of_W Try.func21 rfl rfl ?_
 have hC0 := Ctx.start w0
 unfold Q.szQuery at hF
 refine W_seq_reg ?_
 refine WL_boxK (cs := [u1, u2]) hC0 rfl rfl rfl (fun b1 w1 hC1 hB1 hN1 => ?_)
 refine WL_assign rfl rfl ?_
 refine WL_nil ?_
 refine W_seq_reg ?_
 refine WL_field Try.underlying45 rfl rfl (fun w => ⟨_, Try.sizeOf28 w⟩) rfl rfl ?_
 refine WL_load_box hC1 0 rfl rfl Try.isAgg28 rfl rfl ?_
 refine WL_move rfl rfl ?_
 obtain ⟨x1, hr1, hF⟩ := bind_some hF
 refine WL_call Try.call39 rfl rfl (c_Q_szIntS a1.1 u1 (g1.now hC1.keep) a2 x1 hr1) ?_
 intro _ w2 hv1
 obtain ⟨rfl, hB2⟩ := res_int hv1
 have hC2 := hC1.grow hB2
 refine WL_assign rfl rfl ?_
 refine WL_nil ?_
 refine W_seq ?_
 refine W_seq_reg ?_
 refine WL_move rfl rfl ?_
 refine WL_lss rfl rfl rfl ?_
 refine WL_nil ?_
 refine W_cond rfl (fun hc1 => ?_) (fun hc1 => ?_)
 ·replace hF := ite_t hF hc1
  refine W_seq_reg ?_
  refine WL_assign rfl rfl ?_
  refine WL_nil ?_
  refine W_ret ?_
  refine nrm_ret ?_
  have hq1 := Option.some.inj hF
  subst hq1
  refine fn_ret1 rfl rfl ?_
  exact ⟨_, rfl, int_res hC2 _⟩
 replace hF := ite_f hF hc1
 refine W_skip ?_
 refine nrm_normal ?_
 refine W_seq_reg ?_
 refine WL_field Try.underlying45 rfl rfl (fun w => ⟨_, Try.sizeOf43 w⟩) rfl rfl ?_
 refine WL_load_box hC2 0 rfl rfl Try.isAgg43 rfl rfl ?_
 refine WL_move rfl rfl ?_
 obtain ⟨x2, hr2, hF⟩ := bind_some hF
 refine WL_call Try.call40 rfl rfl (c_Q_szAtomS a1.2 u2 (g2.now hC2.keep) x1 x2 hr2) ?_
 intro _ w3 hv2
 obtain ⟨rfl, hB3⟩ := res_int hv2
 have hC3 := hC2.grow hB3
 refine WL_assign rfl rfl ?_
 refine WL_nil ?_
 refine W_seq ?_
 refine W_seq_reg ?_
 refine WL_move rfl rfl ?_
 refine WL_lss rfl rfl rfl ?_
 refine WL_nil ?_
 refine W_cond rfl (fun hc2 => ?_) (fun hc2 => ?_)
 ·replace hF := ite_t hF hc2
  refine W_seq_reg ?_
  refine WL_assign rfl rfl ?_
  refine WL_nil ?_
  refine W_ret ?_
  refine nrm_ret ?_
  have hq2 := Option.some.inj hF
  subst hq2
  refine fn_ret1 rfl rfl ?_
  exact ⟨_, rfl, int_res hC3 _⟩
 replace hF := ite_f hF hc2
 refine W_skip ?_
 refine nrm_normal ?_
 refine W_seq_reg ?_
 refine WL_move rfl rfl ?_
 refine WL_assign rfl rfl ?_
 refine WL_nil ?_
 refine W_ret ?_
 have hq3 := Option.some.inj hF
 subst hq3
 refine fn_ret1 rfl rfl ?_
 exact ⟨_, rfl, int_res hC3 _⟩

theorem c_S_l3Atom {w0 : World} (a1 : Int) (a2 : (List Int)) (u1 : Value) (g1 : RO [] w0 u1 a2) (rr : (Int × (List Int))) (hF : S.l3Atom a1 a2 = some rr) :
 Calls Try.prog 57 [(.int .i64 a1), u1].toArray w0 fun e w' => ∃ v, e = .returned v ∧ Res w0 rr v w' := by
 refine calls_of_W Try.func57 rfl rfl ?_
 have hC0 := Ctx.start w0
 unfold S.l3Atom at hF
 refine W_seq_reg ?_
 refine WL_allocK hC0 zero70 rfl rfl (fun b1 w1 hC1 hB1 hN1 => ?_)
 refine WL_nil ?_
 refine W_seq_reg ?_
 refine WL_move rfl rfl ?_
 refine WL_buildSlice (vs := []) hC1 Try.underlying28 ty3 rfl rfl rfl rfl (by simp) rfl rfl (fun b2 w2 hC2 hB2 => ?_)
 have hC3 := hC2.row0 (α := Int)
 have hC4 := hC3.front 1 rfl
 dsimp only [List.eraseIdx, List.cons_append, List.nil_append, List.append_nil] at hC4
 have hC5 : Ctx [] w0 w2 (Item.own (.slice (some ⟨b2, 0, none⟩) 0 0) (([] : List Int) : List Int) :: [Item.box b1 [(.int .i64 0), (.slice none 0 0)]]) := hC4.rowOwn (by simp [maxLen])
 refine WL_move rfl rfl ?_
 obtain ⟨x1, hx1, hF⟩ := bind_some hF
 refine WL_append_flat (α := Int) hC5 0 rfl g1 hC5.keep Try.underlying28 ty3 rfl hx1 rfl rfl rfl (fun v1 w3 hC6 => ?_)
 try dsimp only [List.set] at hC6
 refine WL_build (vs := [(0, (.int .i64 a1)), (1, v1)]) rfl rfl rfl (built70_0_1 rfl (ro_cells (hC6.ro 0 rfl))) ?_
 refine WL_store_box_aggK (cs' := [(.int .i64 a1), v1]) (new := [(.int .i64 a1), v1]) hC6 1 rfl rfl (by intro v hv; simp only [List.mem_cons, List.not_mem_nil, or_false] at hv; rcases hv with rfl | rfl; exact rfl; exact (ro_one (hC6.ro 0 rfl))) rfl Try.sizeOf70 rfl rfl (fun w4 hC7 hKp1 => ?_)
 try dsimp only [List.set] at hC7
 refine WL_nil ?_
 refine W_ret ?_
 have hq1 := Option.some.inj hF
 subst hq1
 refine fn_retG1 rfl (rv_cell_agg (cs' := [(.int .i64 a1), v1]) hC7 (i := 1) rfl rfl rfl Try.isAgg70 Try.sizeOf70 rfl) ?_
 have hC8 := own_st70 a1 v1 x1 hC7
 exact ⟨_, rfl, own_res hC8 0 rfl⟩

theorem c_S_l3Copy {w0 : World} (a1 : ((List Int) × (List (Int × (List Int))))) (u1 : Value) (g1 : RO [] w0 u1 a1.1) (u2 : Value) (g2 : RO [] w0 u2 a1.2) (rr : ((List Int) × (List (Int × (List Int))))) (hF : S.l3Copy a1 = some rr) :
 Calls Try.prog 41 [(.agg #[u1, u2])].toArray w0 fun e w' => ∃ v, e = .returned v ∧ Res w0 rr v w' := by
 refine calls_of_W Try.func41 rfl rfl ?_
 have hC0 := Ctx.start w0
 unfold S.l3Copy at hF
 refine W_seq_reg ?_
 refine WL_boxK (cs := [u1, u2]) hC0 rfl rfl rfl (fun b1 w1 hC1 hB1 hN1 => ?_)
 refine WL_allocK hC1 zero49 rfl rfl (fun b2 w2 hC2 hB2 hN2 => ?_)
 refine WL_nil ?_
 refine W_seq_reg ?_
 refine WL_buildSlice (vs := []) hC2 Try.underlying28 ty3 rfl rfl rfl rfl (by simp) rfl rfl (fun b3 w3 hC3 hB3 => ?_)
 have hC4 := hC3.row0 (α := Int)
 have hC5 := hC4.front 1 rfl
 dsimp only [List.eraseIdx, List.cons_append, List.nil_append, List.append_nil] at hC5
 have hC6 : Ctx [] w0 w3 (Item.own (.slice (some ⟨b3, 0, none⟩) 0 0) (([] : List Int) : List Int) :: [Item.box b2 [(.slice none 0 0), (.slice none 0 0)], Item.box b1 [u1, u2]]) := hC5.rowOwn (by simp [maxLen])
 refine WL_field Try.underlying49 rfl rfl (fun w => ⟨_, Try.sizeOf28 w⟩) rfl rfl ?_
 refine WL_load_box hC6 2 rfl rfl Try.isAgg28 rfl rfl ?_
 obtain ⟨x1, hx1, hF⟩ := bind_some hF
 refine WL_append_flat (α := Int) hC6 0 rfl g1 hC6.keep Try.underlying28 ty3 rfl hx1 rfl rfl rfl (fun v1 w4 hC7 => ?_)
 try dsimp only [List.set] at hC7
 refine WL_build (vs := [(0, v1)]) rfl rfl rfl (built49_0 (ro_cells (hC7.ro 0 rfl))) ?_
 refine WL_allocK hC7 zero49 rfl rfl (fun b4 w5 hC8 hB4 hN3 => ?_)
 refine WL_store_box_aggK (cs' := [v1, (.slice none 0 0)]) (new := [v1, (.slice none 0 0)]) hC8 0 rfl rfl (by intro v hv; simp only [List.mem_cons, List.not_mem_nil, or_false] at hv; rcases hv with rfl | rfl; exact (ro_one (hC8.ro 1 rfl)); exact rfl) rfl Try.sizeOf49 rfl rfl (fun w6 hC9 hKp1 => ?_)
 try dsimp only [List.set] at hC9
 have hk1 := Keep.over (Keep.of hB4) hN3 hKp1
 refine WL_nil ?_
 refine W_seq ?_
 refine W_seq_reg ?_
 refine WL_assign rfl rfl ?_
 refine WL_nil ?_
 obtain ⟨r1, hr1, hF⟩ := bind_some hF
 refine W_norm (fun l w => ∃ v4 : Value, ∃ x5 : (List Int), ∃ v5 : Value, ∃ x6 : (List (Int × (List Int))), (x5, x6) = r1 ∧ l = [(2, (ptr b2 0)), (3, (ptr b4 0))] ∧ Ctx [] w0 w [Item.own v5 (x6 : (List (Int × (List Int)))), Item.box b4 [v4, v5], Item.own v4 (x5 : (List Int)), Item.box b2 [(.slice none 0 0), (.slice none 0 0)]]) ?_ ?_
 ·refine W_block ?_
  have hC30 := hC9.triv (nil_val (α := (Int × (List Int))))
  refine W.sub (l' := [(1, (ptr b1 0)), (2, (ptr b2 0)), (3, (ptr b4 0)), (4, (.int .i64 0))]) ?_ ⟨rfl, rfl, rfl, rfl, trivial⟩
  refine W_loop (fun k l w => ∃ v2 : Value, ∃ x2 : (List Int), ∃ v3 : Value, ∃ x3 : (List (Int × (List Int))), ∃ x4 : Int, l = [(1, (ptr b1 0)), (2, (ptr b2 0)), (3, (ptr b4 0)), (4, (.int .i64 x4))] ∧ Ctx [] w0 w [Item.own v3 (x3 : (List (Int × (List Int)))), Item.box b4 [v2, v3], Item.own v2 (x2 : (List Int)), Item.box b2 [(.slice none 0 0), (.slice none 0 0)], Item.box b1 [u1, u2]] ∧ S.l3Copy_l1 a1 k x2 x3 x4 = some r1) FUEL ⟨v1, x1, (.slice none 0 0), [], 0, rfl, hC30, hr1⟩ ?_
  clear hr1
  rintro k1 _ w7 ⟨v2, x2, v3, x3, x4, rfl, hC10, hL1⟩
  cases k1 with
  | zero => rw [S.l3Copy_l1] at hL1; cases hL1
  | succ k1 =>
   rw [S.l3Copy_l1] at hL1
   refine W_seq ?_
   refine W_seq_reg ?_
   refine WL_move rfl rfl ?_
   refine WL_field Try.underlying49 rfl rfl (fun w => ⟨_, Try.sizeOf47 w⟩) rfl rfl ?_
   refine WL_load_box hC10 4 rfl rfl Try.isAgg47 rfl rfl ?_
   refine WL_len Try.underlying47 g2 rfl rfl ?_
   refine WL_lss rfl rfl rfl ?_
   refine WL_nil ?_
   refine W_cond rfl (fun hc1 => ?_) (fun hc1 => ?_)
   ·replace hL1 := ite_t hL1 hc1
    refine W_skip ?_
    refine nrm_normal ?_
    refine W_seq ?_
    refine W_block ?_
    refine W_drawn 19 rfl hmix (fun w9 hB6 => ?_)
    have hC11 := hC10.grow hB6
    refine WA_tk 0 (by kernel_rfl) rfl rfl (fl_field Try.underlying49 rfl rfl (fun w => ⟨_, Try.sizeOf47 w⟩) rfl) ?_
    refine WL_field Try.underlying49 rfl rfl (fun w => ⟨_, Try.sizeOf47 w⟩) rfl rfl ?_
    refine WL_nil ?_
    refine WA_tk 2 (by kernel_rfl) rfl rfl (fl_field Try.underlying49 rfl rfl (fun w => ⟨_, Try.sizeOf47 w⟩) rfl) ?_
    refine WL_field Try.underlying49 rfl rfl (fun w => ⟨_, Try.sizeOf47 w⟩) rfl rfl ?_
    refine WL_nil ?_
    refine WA_tk 4 (by kernel_rfl) rfl rfl (fl_move rfl) ?_
    refine WL_move rfl rfl ?_
    refine WL_nil ?_
    refine WA_tk 8 (by kernel_rfl) rfl rfl (fl_field Try.underlying49 rfl rfl (fun w => ⟨_, Try.sizeOf47 w⟩) rfl) ?_
    refine WL_field Try.underlying49 rfl rfl (fun w => ⟨_, Try.sizeOf47 w⟩) rfl rfl ?_
    refine WL_nil ?_
    refine WA_tk 10 (by kernel_rfl) rfl rfl (fl_move rfl) ?_
    refine WL_move rfl rfl ?_
    refine WL_nil ?_
    obtain ⟨x7, hx2, hL1⟩ := bind_some hL1
    obtain ⟨x8, hx3, hL1⟩ := bind_some hL1
    obtain ⟨x9, hr2, hL1⟩ := bind_some hL1
    refine WA.sub (l' := [(1, (ptr b1 0)), (2, (ptr b2 0)), (3, (ptr b4 0)), (4, (.int .i64 x4)), (10, (.int .i64 x4)), (11, (ptr b1 1)), (12, u2), (13, (.int .i64 (List.length a1.2 : Int))), (14, (.bool (decide (x4 < (List.length a1.2 : Int))))), (17, (ptr b4 1)), (19, (ptr b1 1)), (21, (.int .i64 x4)), (25, (ptr b1 1)), (27, (.int .i64 x4))]) ?_ ⟨rfl, rfl, rfl, rfl, rfl, rfl, rfl, rfl, rfl, rfl, rfl, rfl, rfl, rfl, trivial⟩
    refine WA_postsE [⟨1, [], fun vs => PW.val v3, []⟩, ⟨3, [], fun vs => PW.val u2, []⟩, ⟨5, [], fun vs => PW.at [] w0 x7, []⟩, ⟨6, [], fun vs => PW.at [] w0 x7.1, []⟩, ⟨7, [], fun vs => PW.val (.int .i64 x7.1), []⟩, ⟨9, [], fun vs => PW.val u2, []⟩, ⟨11, [], fun vs => PW.at [] w0 x8, []⟩, ⟨12, [], fun vs => PW.at [] w0 x8.2, []⟩, ⟨13, [], fun vs => PW.ro [] w0 x8.2, []⟩, ⟨14, [], fun vs => PW.own x9, []⟩, ⟨15, [], fun vs => PW.own ([(x9.1, x9.2)] : (List (Int × (List Int)))), [14]⟩] [[], [], [3], [5], [6], [], [9], [11], [12], [7, 13], []] 3 rfl (by kernel_rfl) (by kernel_rfl) rfl ?_ ?_
    ·refine StepsE_cons rfl ?_ ?_
     ·intro w12 hB9
      refine DepsE_nil ?_
      refine ⟨_, rfl, ?_⟩
      refine WL_load_box (hC11.grow hB9) 1 rfl rfl Try.isAgg47 rfl rfl ?_
      refine WL_nil ?_
      exact FinE_val (Below.refl _ _) rfl rfl ⟨rfl, rfl⟩
     refine StepsE_cons rfl ?_ ?_
     ·intro w12 hB9
      refine DepsE_nil ?_
      refine ⟨_, rfl, ?_⟩
      refine WL_load_box (hC11.grow hB9) 4 rfl rfl Try.isAgg47 rfl rfl ?_
      refine WL_nil ?_
      exact FinE_val (Below.refl _ _) rfl rfl ⟨rfl, rfl⟩
     refine StepsE_cons rfl ?_ ?_
     ·intro w12 hB9
      refine DepsE_cons rfl rfl rfl ?_
      rintro _ _ ⟨rfl, rfl⟩ _
      refine DepsE_nil ?_
      refine ⟨_, rfl, ?_⟩
      refine WL_index Try.underlying47 ty70 g2 hx2 rfl rfl rfl (fun b5 o1 h1 => ?_)
      refine WL_nil ?_
      exact FinE_val (Below.refl _ _) rfl rfl ⟨rfl, _, _, rfl, h1⟩
     refine StepsE_cons rfl ?_ ?_
     ·intro w12 hB9
      refine DepsE_cons rfl rfl rfl ?_
      rintro _ _ ⟨rfl, b5, o1, rfl, h1⟩ _
      refine DepsE_nil ?_
      refine ⟨_, rfl, ?_⟩
      refine WL_field Try.underlying70 rfl rfl (fun w => ⟨_, Try.sizeOf3 w⟩) rfl rfl ?_
      refine WL_nil ?_
      exact FinE_val (Below.refl _ _) rfl rfl ⟨rfl, _, _, rfl, h1.fst⟩
     refine StepsE_cons rfl ?_ ?_
     ·intro w12 hB9
      refine DepsE_cons rfl rfl rfl ?_
      rintro _ _ ⟨rfl, b6, o2, rfl, h2⟩ _
      refine DepsE_nil ?_
      refine ⟨_, rfl, ?_⟩
      refine WL_load ty3 h2 (hC11.keep.then hB9) rfl rfl (fun v6 h3 => ?_)
      obtain rfl := ro_int h3
      refine WL_nil ?_
      exact FinE_val (Below.refl _ _) rfl rfl ⟨rfl, rfl⟩
     refine StepsE_cons rfl ?_ ?_
     ·intro w12 hB9
      refine DepsE_nil ?_
      refine ⟨_, rfl, ?_⟩
      refine WL_load_box (hC11.grow hB9) 4 rfl rfl Try.isAgg47 rfl rfl ?_
      refine WL_nil ?_
      exact FinE_val (Below.refl _ _) rfl rfl ⟨rfl, rfl⟩
     refine StepsE_cons rfl ?_ ?_
     ·intro w12 hB9
      refine DepsE_cons rfl rfl rfl ?_
      rintro _ _ ⟨rfl, rfl⟩ _
      refine DepsE_nil ?_
      refine ⟨_, rfl, ?_⟩
      refine WL_index Try.underlying47 ty70 g2 hx3 rfl rfl rfl (fun b7 o3 h4 => ?_)
      refine WL_nil ?_
      exact FinE_val (Below.refl _ _) rfl rfl ⟨rfl, _, _, rfl, h4⟩
     refine StepsE_cons rfl ?_ ?_
     ·intro w12 hB9
      refine DepsE_cons rfl rfl rfl ?_
      rintro _ _ ⟨rfl, b7, o3, rfl, h4⟩ _
      refine DepsE_nil ?_
      refine ⟨_, rfl, ?_⟩
      refine WL_field Try.underlying70 rfl rfl (fun w => ⟨_, Try.sizeOf28 w⟩) rfl rfl ?_
      refine WL_nil ?_
      exact FinE_val (Below.refl _ _) rfl rfl ⟨rfl, _, _, rfl, h4.snd⟩
     refine StepsE_cons rfl ?_ ?_
     ·intro w12 hB9
      refine DepsE_cons rfl rfl rfl ?_
      rintro _ _ ⟨rfl, b8, o4, rfl, h5⟩ _
      refine DepsE_nil ?_
      refine ⟨_, rfl, ?_⟩
      refine WL_load ty28 h5 (hC11.keep.then hB9) rfl rfl (fun v7 h6 => ?_)
      refine WL_nil ?_
      exact FinE_val (Below.refl _ _) rfl rfl ⟨rfl, h6⟩
     refine StepsE_cons rfl ?_ ?_
     ·intro w12 hB9
      refine DepsE_cons rfl rfl rfl ?_
      rintro _ _ ⟨rfl, rfl⟩ _
      refine DepsE_cons rfl rfl rfl ?_
      rintro v7 _ ⟨rfl, h6⟩ _
      refine DepsE_nil ?_
      refine ⟨_, rfl, ?_⟩
      refine WL_call Try.call57 rfl rfl (c_S_l3Atom x7.1 x8.2 v7 (h6.now (hC11.keep.then hB9)) x9 hr2) ?_
      rintro v8 w10 ⟨hB7, F1, hv1, hn1, hb1⟩
      refine WL_nil ?_
      exact FinE_own hB7 rfl rfl hv1 hn1 hb1 (Val.inh hv1)
     refine StepsE_use rfl rfl rfl ?_ ?_
     ·intro w12 hB9
      refine DepsE_nil ?_
      refine ⟨_, _, rfl, rfl, ?_⟩
      intro v8 F1 hv1 ho1
      have hC12 := Ctx.local hv1 ho1
      obtain ⟨v10, rfl, hC13⟩ := st70_own hC12
      refine WL_buildSlice (vs := [(.agg #[(.int .i64 x9.1), v10])]) hC13 Try.underlying47 ty70 rfl rfl rfl rfl (by intro v hv; simp only [List.mem_cons, List.not_mem_nil, or_false] at hv; rcases hv with rfl <;> rfl) rfl rfl (fun b9 w11 hC14 hB8 => ?_)
      have hC15 := hC14.row0 (α := (Int × (List Int)))
      have hC17 := hC15.f2
      have hC16 := own_st70 x9.1 v10 x9.2 hC17
      have hC18 := hC16.row1
      have hC19 := hC18.front 1 rfl
      dsimp only [List.eraseIdx, List.cons_append, List.nil_append, List.append_nil] at hC19
      have hC20 : Ctx F1 w12 w11 (Item.own (.slice (some ⟨b9, 0, none⟩) 1 1) ([(x9.1, x9.2)] : List (Int × (List Int))) :: []) := hC19.rowOwn (by simp [maxLen])
      refine WL_nil ?_
      exact FinE_ctx hC20 rfl rfl (fun F h => h)
     exact StepsE_nil
    intro w13 hB10
    refine AllE_cons rfl rfl rfl ?_
    rintro _ _ ⟨rfl, rfl⟩
    refine AllE_cons rfl rfl rfl ?_
    rintro _ _ ⟨rfl, rfl⟩
    refine AllE_cons rfl rfl rfl ?_
    rintro _ _ ⟨rfl, b5, o1, rfl, h1⟩
    refine AllE_cons rfl rfl rfl ?_
    rintro _ _ ⟨rfl, b6, o2, rfl, h2⟩
    refine AllE_cons rfl rfl rfl ?_
    rintro _ _ ⟨rfl, rfl⟩
    refine AllE_cons rfl rfl rfl ?_
    rintro _ _ ⟨rfl, rfl⟩
    refine AllE_cons rfl rfl rfl ?_
    rintro _ _ ⟨rfl, b7, o3, rfl, h4⟩
    refine AllE_cons rfl rfl rfl ?_
    rintro _ _ ⟨rfl, b8, o4, rfl, h5⟩
    refine AllE_cons rfl rfl rfl ?_
    rintro v7 _ ⟨rfl, h6⟩
    refine AllE_skip rfl ?_
    refine AllE_cons rfl rfl rfl ?_
    intro v11 F2 hv2
    refine AllE_nil ?_
    intro hn2 hb2
    have hC21 := hC11.pushL hB10 (Bs := [Item.own v11 ([(x9.1, x9.2)] : (List (Int × (List Int))))]) (Fs := [F2]) ⟨F2, _, rfl, hv2, rfl⟩ (by simpa using hn2) (fun b h => (hb2 b (by simpa using h)).1)
    obtain ⟨x10, hx4, hL1⟩ := bind_some hL1
    refine WA_one 16 (by kernel_rfl) rfl ?_
    refine WL_append_head hC21 0 rfl Try.underlying47 ty70 rfl hx4 rfl rfl rfl (fun v12 w14 hC22 => ?_)
    try dsimp only [List.set] at hC22
    refine WL_nil ?_
    refine WA_tk 17 (by kernel_rfl) rfl rfl (fl_field Try.underlying49 rfl rfl (fun w => ⟨_, Try.sizeOf47 w⟩) rfl) ?_
    refine WL_field Try.underlying49 rfl rfl (fun w => ⟨_, Try.sizeOf47 w⟩) rfl rfl ?_
    refine WL_nil ?_
    refine WA_one 18 (by kernel_rfl) rfl ?_
    refine WL_store_boxK (cs' := [v2, v12]) hC22 1 rfl rfl (ro_one (hC22.ro 0 rfl)) rfl Try.sizeOf47 rfl rfl (fun w15 hC24 hKp2 => ?_)
    try dsimp only [List.set] at hC24
    refine WL_nil ?_
    refine WA_done (by kernel_rfl) ?_
    refine blk_normal ?_
    refine nrm_normal ?_
    refine W_reg ?_
    refine WL_move rfl rfl ?_
    refine WL_add rfl rfl rfl ?_
    refine WL_assign rfl rfl ?_
    refine WL_nil ?_
    refine nrm_sub (l' := [(1, (ptr b1 0)), (2, (ptr b2 0)), (3, (ptr b4 0)), (4, (.int .i64 (w64 (x4 + 1))))]) ⟨rfl, rfl, rfl, rfl, trivial⟩ ?_
    exact ⟨k1, Nat.lt_succ_self _, v2, x2, v12, x10, w64 (x4 + 1), rfl, hC24, hL1⟩
   replace hL1 := ite_f hL1 hc1
   refine W_exit ?_
   refine nrm_exit ?_
   refine nrm_exit ?_
   refine blk_exit ?_
   have hq1 := Option.some.inj hL1
   subst hq1
   have hC25 := hC10.f3
   have hC26 := hC25.f3
   have hC27 := hC26.f3
   have hC28 := hC27.f3
   have hC29 := hC28.h4
   refine nrm_sub (l' := [(2, (ptr b2 0)), (3, (ptr b4 0))]) ⟨rfl, rfl, trivial⟩ ?_
   exact ⟨v2, x2, v3, x3, rfl, rfl, hC29⟩
 rintro l2 _ w16 hs2 ⟨v4, x5, v5, x6, rfl, rfl, hC31⟩
 try dsimp only at hF
 refine nrm_sub' hs2 ?_
 clear hs2
 refine W_seq_reg ?_
 refine WL_load_box_agg [v4, v5] hC31 1 rfl rfl rfl Try.isAgg49 Try.sizeOf49 rfl rfl ?_
 refine WL_store_box_aggK (cs' := [v4, v5]) (new := [v4, v5]) hC31 3 rfl rfl (by intro v hv; simp only [List.mem_cons, List.not_mem_nil, or_false] at hv; rcases hv with rfl | rfl; exact (ro_one (hC31.ro 2 rfl)); exact (ro_one (hC31.ro 0 rfl))) rfl Try.sizeOf49 rfl rfl (fun w17 hC32 hKp3 => ?_)
 try dsimp only [List.set] at hC32
 refine WL_nil ?_
 refine W_ret ?_
 have hq2 := Option.some.inj hF
 subst hq2
 refine fn_retG1 rfl (rv_cell_agg (cs' := [v4, v5]) hC32 (i := 3) rfl rfl rfl Try.isAgg49 Try.sizeOf49 rfl) ?_
 have hC35 := hC32.f2
 have hC33 := own_st49 v4 x5 v5 x6 hC35
 exact ⟨_, rfl, own_res hC33 0 rfl⟩

theorem c_S_l30Swap {w0 : World} (a1 : Int) (a2 : Int) (a3 : Int) (rr : Int) (hF : S.l30Swap a1 a2 a3 = some rr) :
 Calls Try.prog 42 [(.int .i64 a1), (.int .i64 a2), (.int .i64 a3)].toArray w0 fun e w' => ∃ v, e = .returned v ∧ Res w0 rr v w' := by
 refine calls_of_W Try.func42 rfl rfl ?_
 have hC0 := Ctx.start w0
 unfold S.l30Swap at hF
 refine W_seq_reg ?_
 refine WL_assign rfl rfl ?_
 refine WL_nil ?_
 refine W_seq ?_
 refine W_seq_reg ?_
 refine WL_move rfl rfl ?_
 refine WL_nil ?_
 refine W_block ?_
 refine W_seq_reg ?_
 refine WL_move rfl rfl ?_
 refine WL_eql rfl rfl rfl ?_
 refine WL_assign rfl rfl ?_
 refine WL_nil ?_
 refine W_cond rfl (fun hc1 => ?_) (fun hc1 => ?_)
 ·replace hF := ite_t hF hc1
  refine W_seq_reg ?_
  refine WL_move rfl rfl ?_
  refine WL_assign rfl rfl ?_
  refine WL_nil ?_
  refine W_ret ?_
  refine blk_ret ?_
  refine nrm_ret ?_
  have hq1 := Option.some.inj hF
  subst hq1
  refine fn_ret1 rfl rfl ?_
  exact ⟨_, rfl, int_res hC0 _⟩
 replace hF := ite_f hF hc1
 refine W_seq_reg ?_
 refine WL_move rfl rfl ?_
 refine WL_eql rfl rfl rfl ?_
 refine WL_assign rfl rfl ?_
 refine WL_nil ?_
 refine W_cond rfl (fun hc2 => ?_) (fun hc2 => ?_)
 ·replace hF := ite_t hF hc2
  refine W_seq_reg ?_
  refine WL_move rfl rfl ?_
  refine WL_assign rfl rfl ?_
  refine WL_nil ?_
  refine W_ret ?_
  refine blk_ret ?_
  refine nrm_ret ?_
  have hq2 := Option.some.inj hF
  subst hq2
  refine fn_ret1 rfl rfl ?_
  exact ⟨_, rfl, int_res hC0 _⟩
 replace hF := ite_f hF hc2
 refine W_skip ?_
 refine blk_normal ?_
 refine nrm_normal ?_
 refine W_seq_reg ?_
 refine WL_move rfl rfl ?_
 refine WL_assign rfl rfl ?_
 refine WL_nil ?_
 refine W_ret ?_
 have hq3 := Option.some.inj hF
 subst hq3
 refine fn_ret1 rfl rfl ?_
 exact ⟨_, rfl, int_res hC0 _⟩

theorem c_S_SwapValue {w0 : World} (a1 : ((List Int) × (List (Int × (List Int))))) (u1 : Value) (g1 : RO [] w0 u1 a1.1) (u2 : Value) (g2 : RO [] w0 u2 a1.2) (a2 : Int) (a3 : Int) (rr : ((List Int) × (List (Int × (List Int))))) (hF : S.SwapValue a1 a2 a3 = some rr) :
 Calls Try.prog 22 [(.agg #[u1, u2]), (.int .i64 a2), (.int .i64 a3)].toArray w0 fun e w' => ∃ v, e = .returned v ∧ Res w0 rr v w' := by
 refine calls_of_W Try.func22 rfl rfl ?_
 have hC0 := Ctx.start w0
 unfold S.SwapValue at hF
 refine W_seq_reg ?_
 refine WL_boxK (cs := [u1, u2]) hC0 rfl rfl rfl (fun b1 w1 hC1 hB1 hN1 => ?_)
 refine WL_allocK hC1 zero49 rfl rfl (fun b2 w2 hC2 hB2 hN2 => ?_)
 refine WL_nil ?_
 refine W_seq_reg ?_
 refine WL_load_box_agg [u1, u2] hC2 1 rfl rfl rfl Try.isAgg49 Try.sizeOf49 rfl rfl ?_
 obtain ⟨x1, hr1, hF⟩ := bind_some hF
 refine WL_call Try.call41 rfl rfl (c_S_l3Copy (a1.1, a1.2) u1 (g1.now hC2.keep) u2 (g2.now hC2.keep) x1 hr1) ?_
 rintro v1 w3 ⟨hB3, F1, hv1, hn1, hb1⟩
 have hC3 := hC2.push hB3 (A := Item.own v1 x1) hv1 hn1 hb1
 obtain ⟨v2, v3, rfl, hC4⟩ := st49_own hC3
 refine WL_allocK hC4 zero49 rfl rfl (fun b3 w4 hC5 hB4 hN3 => ?_)
 refine WL_store_box_aggK (cs' := [v2, v3]) (new := [v2, v3]) hC5 0 rfl rfl (by intro v hv; simp only [List.mem_cons, List.not_mem_nil, or_false] at hv; rcases hv with rfl | rfl; exact (ro_one (hC5.ro 1 rfl)); exact (ro_one (hC5.ro 2 rfl))) rfl Try.sizeOf49 rfl rfl (fun w5 hC6 hKp1 => ?_)
 try dsimp only [List.set] at hC6
 have hk1 := Keep.over ((((Keep.of hB1).then hB2).then hB3).then hB4) (Nat.le_trans (((Keep.of hB1).then hB2).then hB3).size hN3) hKp1
 have hk2 := Keep.over (((Keep.of hB2).then hB3).then hB4) (Nat.le_trans ((Keep.of hB2).then hB3).size hN3) hKp1
 have hk3 := Keep.over ((Keep.of hB3).then hB4) (Nat.le_trans (Keep.of hB3).size hN3) hKp1
 have hk4 := Keep.over (Keep.of hB4) hN3 hKp1
 refine WL_nil ?_
 refine W_seq ?_
 refine W_seq_reg ?_
 refine WL_assign rfl rfl ?_
 refine WL_nil ?_
 obtain ⟨r1, hr2, hF⟩ := bind_some hF
 refine W_norm (fun l w => ∃ x4 : (List (Int × (List Int))), x4 = r1 ∧ l = [(6, (ptr b2 0)), (7, (ptr b3 0))] ∧ Ctx [] w0 w [Item.box b3 [v2, v3], Item.own v2 (x1.1 : (List Int)), Item.own v3 (x4 : (List (Int × (List Int)))), Item.box b2 [(.slice none 0 0), (.slice none 0 0)]]) ?_ ?_
 ·refine W_block ?_
  have hC28 := hC6.f3
  have hC29 := hC28.f3
  have hC30 := hC29.f3
  have hC31 := hC30.f3
  have hC32 := hC31.h4
  refine W.sub (l' := [(1, (.int .i64 a2)), (2, (.int .i64 a3)), (6, (ptr b2 0)), (7, (ptr b3 0)), (8, (.int .i64 0))]) ?_ ⟨rfl, rfl, rfl, rfl, rfl, trivial⟩
  refine W_loop (fun k l w => ∃ x2 : (List (Int × (List Int))), ∃ x3 : Int, l = [(1, (.int .i64 a2)), (2, (.int .i64 a3)), (6, (ptr b2 0)), (7, (ptr b3 0)), (8, (.int .i64 x3))] ∧ Ctx [] w0 w [Item.box b3 [v2, v3], Item.own v2 (x1.1 : (List Int)), Item.own v3 (x2 : (List (Int × (List Int)))), Item.box b2 [(.slice none 0 0), (.slice none 0 0)]] ∧ S.SwapValue_l1 a2 a3 k x2 x3 = some r1) FUEL ⟨x1.2, 0, rfl, hC32, hr2⟩ ?_
  clear hr2
  rintro k1 _ w6 ⟨x2, x3, rfl, hC7, hL1⟩
  cases k1 with
  | zero => rw [S.SwapValue_l1] at hL1; cases hL1
  | succ k1 =>
   rw [S.SwapValue_l1] at hL1
   refine W_seq ?_
   obtain ⟨r2, hr3, hL1⟩ := bind_some hL1
   refine W_cut (fun l w => ∃ x5 : Bool, x5 = r2 ∧ l = [(1, (.int .i64 a2)), (2, (.int .i64 a3)), (6, (ptr b2 0)), (7, (ptr b3 0)), (8, (.int .i64 x3)), (24, (.bool x5))] ∧ Below w6.heap.size w6 w ∧ Ctx [] w0 w [Item.box b3 [v2, v3], Item.own v2 (x1.1 : (List Int)), Item.own v3 (x2 : (List (Int × (List Int)))), Item.box b2 [(.slice none 0 0), (.slice none 0 0)]]) ?_ ?_
   ·refine W_reg ?_
    refine WL_move rfl rfl ?_
    refine WL_field Try.underlying49 rfl rfl (fun w => ⟨_, Try.sizeOf47 w⟩) rfl rfl ?_
    refine WL_load_box hC7 0 rfl rfl Try.isAgg47 rfl rfl ?_
    refine WL_len Try.underlying47 (hC7.ro 2 rfl) rfl rfl ?_
    refine WL_lss rfl rfl rfl ?_
    refine WL_move rfl rfl ?_
    refine WL_fork (fun hc1 => ?_) (fun hc1 => ?_)
    ·replace hr3 := ite_t hr3 hc1
     refine WL_guard rfl rfl ?_
     refine WL_move rfl rfl ?_
     obtain ⟨x6, hr4, hr3⟩ := bind_some hr3
     refine WL_guard rfl rfl ?_
     refine WL_call Try.call35 rfl rfl (c_S_l1In a2 0 9 x6 hr4) ?_
     intro _ w9 hv2
     obtain ⟨rfl, hB7⟩ := res_bool hv2
     have hC9 := hC7.grow hB7
     refine WL_pick_t rfl rfl rfl ?_
     refine WL_move rfl rfl ?_
     refine WL_fork (fun hc2 => ?_) (fun hc2 => ?_)
     ·replace hr3 := ite_t hr3 hc2
      refine WL_guard rfl rfl ?_
      refine WL_move rfl rfl ?_
      obtain ⟨x7, hr5, hr3⟩ := bind_some hr3
      refine WL_guard rfl rfl ?_
      refine WL_call Try.call35 rfl rfl (c_S_l1In a3 0 9 x7 hr5) ?_
      intro _ w10 hv3
      obtain ⟨rfl, hB8⟩ := res_bool hv3
      have hC10 := hC9.grow hB8
      refine WL_pick_t rfl rfl rfl ?_
      refine WL_nil ?_
      have hq1 := Option.some.inj hr3
      subst hq1
      refine nrm_sub (l' := [(1, (.int .i64 a2)), (2, (.int .i64 a3)), (6, (ptr b2 0)), (7, (ptr b3 0)), (8, (.int .i64 x3)), (24, (.bool x7))]) ⟨rfl, rfl, rfl, rfl, rfl, rfl, trivial⟩ ?_
      exact ⟨x7, rfl, rfl, ((Keep.of hB7).then hB8).below, hC10⟩
     replace hr3 := ite_f hr3 hc2
     refine WL_guard_skip rfl rfl (by simp) rfl ?_
     refine WL_guard_skip rfl rfl (by simp) rfl ?_
     refine WL_pick_f rfl rfl rfl ?_
     refine WL_nil ?_
     have hq2 := Option.some.inj hr3
     subst hq2
     refine nrm_sub (l' := [(1, (.int .i64 a2)), (2, (.int .i64 a3)), (6, (ptr b2 0)), (7, (ptr b3 0)), (8, (.int .i64 x3)), (24, (.bool false))]) ⟨rfl, rfl, rfl, rfl, rfl, rfl, trivial⟩ ?_
     exact ⟨false, rfl, rfl, (Keep.of hB7).below, hC9⟩
    replace hr3 := ite_f hr3 hc1
    refine WL_guard_skip rfl rfl (by simp) rfl ?_
    refine WL_guard_skip rfl rfl (by simp) rfl ?_
    refine WL_pick_f rfl rfl rfl ?_
    refine WL_move rfl rfl ?_
    refine WL_guard_skip rfl rfl (by simp) rfl ?_
    refine WL_guard_skip rfl rfl (by simp) rfl ?_
    refine WL_pick_f rfl rfl rfl ?_
    refine WL_nil ?_
    have hq3 := Option.some.inj hr3
    subst hq3
    refine nrm_sub (l' := [(1, (.int .i64 a2)), (2, (.int .i64 a3)), (6, (ptr b2 0)), (7, (ptr b3 0)), (8, (.int .i64 x3)), (24, (.bool false))]) ⟨rfl, rfl, rfl, rfl, rfl, rfl, trivial⟩ ?_
    exact ⟨false, rfl, rfl, (Below.refl _ _), hC7⟩
   rintro _ w7 ⟨x5, rfl, rfl, hB6, hC8⟩
   try dsimp only at hL1
   refine W_cond rfl (fun hc3 => ?_) (fun hc3 => ?_)
   ·replace hL1 := ite_t hL1 hc3
    refine W_skip ?_
    refine nrm_normal ?_
    refine W_seq ?_
    refine W_block ?_
    refine W_seq_reg ?_
    refine WL_assign rfl rfl ?_
    refine WL_nil ?_
    obtain ⟨r3, hr6, hL1⟩ := bind_some hL1
    refine W_norm (fun l w => ∃ x10 : (List (Int × (List Int))), x10 = r3 ∧ l = [(1, (.int .i64 a2)), (2, (.int .i64 a3)), (6, (ptr b2 0)), (7, (ptr b3 0)), (8, (.int .i64 x3))] ∧ Ctx [] w0 w [Item.box b3 [v2, v3], Item.own v2 (x1.1 : (List Int)), Item.own v3 (x10 : (List (Int × (List Int)))), Item.box b2 [(.slice none 0 0), (.slice none 0 0)]]) ?_ ?_
    ·refine W_block ?_
     refine W.sub (l' := [(1, (.int .i64 a2)), (2, (.int .i64 a3)), (6, (ptr b2 0)), (7, (ptr b3 0)), (8, (.int .i64 x3)), (9, (.int .i64 0))]) ?_ ⟨rfl, rfl, rfl, rfl, rfl, rfl, trivial⟩
     refine W_loop (fun k l w => ∃ x8 : (List (Int × (List Int))), ∃ x9 : Int, l = [(1, (.int .i64 a2)), (2, (.int .i64 a3)), (6, (ptr b2 0)), (7, (ptr b3 0)), (8, (.int .i64 x3)), (9, (.int .i64 x9))] ∧ Ctx [] w0 w [Item.box b3 [v2, v3], Item.own v2 (x1.1 : (List Int)), Item.own v3 (x8 : (List (Int × (List Int)))), Item.box b2 [(.slice none 0 0), (.slice none 0 0)]] ∧ S.SwapValue_l2 x3 a2 a3 k x8 x9 = some r3) FUEL ⟨x2, 0, rfl, hC8, hr6⟩ ?_
     clear hr6
     rintro k2 _ w11 ⟨x8, x9, rfl, hC11, hL2⟩
     cases k2 with
     | zero => rw [S.SwapValue_l2] at hL2; cases hL2
     | succ k2 =>
      rw [S.SwapValue_l2] at hL2
      refine W_seq ?_
      refine W_seq_reg ?_
      refine WL_move rfl rfl ?_
      refine WL_field Try.underlying49 rfl rfl (fun w => ⟨_, Try.sizeOf47 w⟩) rfl rfl ?_
      refine WL_load_box hC11 0 rfl rfl Try.isAgg47 rfl rfl ?_
      refine WL_move rfl rfl ?_
      obtain ⟨x11, hx1, hL2⟩ := bind_some hL2
      refine WL_index Try.underlying47 ty70 (hC11.ro 2 rfl) hx1 rfl rfl rfl (fun b4 o1 h1 => ?_)
      refine WL_field Try.underlying70 rfl rfl (fun w => ⟨_, Try.sizeOf28 w⟩) rfl rfl ?_
      refine WL_load ty28 h1.snd (Keep.refl _ _) rfl rfl (fun v4 h2 => ?_)
      refine WL_len Try.underlying28 h2 rfl rfl ?_
      refine WL_lss rfl rfl rfl ?_
      refine WL_nil ?_
      refine W_cond rfl (fun hc4 => ?_) (fun hc4 => ?_)
      ·replace hL2 := ite_t hL2 hc4
       refine W_skip ?_
       refine nrm_normal ?_
       refine W_seq ?_
       refine W_block ?_
       obtain ⟨x12, hx2, hL2⟩ := bind_some hL2
       have hC12 := hC11.f2
       obtain ⟨b5, hE1⟩ := hC12.eb hx2
       obtain ⟨cs1, hC13⟩ := hC12.openElem hx2
       obtain ⟨v5, he1, hC14⟩ := st70_own (hC13.cellsOwn rfl)
       obtain rfl := cells_of_agg he1
       refine W_drawn 21 rfl hmix (fun w12 hB10 => ?_)
       have hC15 := hC14.grow hB10
       refine WA_tk 0 (by kernel_rfl) rfl rfl (fl_field Try.underlying49 rfl rfl (fun w => ⟨_, Try.sizeOf47 w⟩) rfl) ?_
       refine WL_field Try.underlying49 rfl rfl (fun w => ⟨_, Try.sizeOf47 w⟩) rfl rfl ?_
       refine WL_nil ?_
       refine WA_tk 2 (by kernel_rfl) rfl rfl (fl_move rfl) ?_
       refine WL_move rfl rfl ?_
       refine WL_nil ?_
       refine WA_tk 6 (by kernel_rfl) rfl rfl (fl_move rfl) ?_
       refine WL_move rfl rfl ?_
       refine WL_nil ?_
       refine WA_tk 7 (by kernel_rfl) rfl rfl (fl_field Try.underlying49 rfl rfl (fun w => ⟨_, Try.sizeOf47 w⟩) rfl) ?_
       refine WL_field Try.underlying49 rfl rfl (fun w => ⟨_, Try.sizeOf47 w⟩) rfl rfl ?_
       refine WL_nil ?_
       refine WA_tk 9 (by kernel_rfl) rfl rfl (fl_move rfl) ?_
       refine WL_move rfl rfl ?_
       refine WL_nil ?_
       refine WA_tk 13 (by kernel_rfl) rfl rfl (fl_move rfl) ?_
       refine WL_move rfl rfl ?_
       refine WL_nil ?_
       refine WA_tk 16 (by kernel_rfl) rfl rfl (fl_move rfl) ?_
       refine WL_move rfl rfl ?_
       refine WL_nil ?_
       refine WA_tk 17 (by kernel_rfl) rfl rfl (fl_move rfl) ?_
       refine WL_move rfl rfl ?_
       refine WL_nil ?_
       obtain ⟨x13, hx3, hL2⟩ := bind_some hL2
       obtain ⟨x14, hr7, hL2⟩ := bind_some hL2
       refine WA.sub (l' := [(1, (.int .i64 a2)), (2, (.int .i64 a3)), (6, (ptr b2 0)), (7, (ptr b3 0)), (8, (.int .i64 x3)), (9, (.int .i64 x9)), (27, (.int .i64 x9)), (28, (ptr b3 1)), (29, v3), (30, (.int .i64 x3)), (31, (ptr b4 o1)), (32, (ptr b4 (o1 + 1))), (33, v4), (34, (.int .i64 (List.length x11.2 : Int))), (35, (.bool (decide (x9 < (List.length x11.2 : Int))))), (38, (ptr b3 1)), (40, (.int .i64 x3)), (44, (.int .i64 x9)), (45, (ptr b3 1)), (47, (.int .i64 x3)), (51, (.int .i64 x9)), (54, (.int .i64 a2)), (55, (.int .i64 a3))]) ?_ ⟨rfl, rfl, rfl, rfl, rfl, rfl, rfl, rfl, rfl, rfl, rfl, rfl, rfl, rfl, rfl, rfl, rfl, rfl, rfl, rfl, rfl, rfl, rfl, trivial⟩
       refine WA_postsE [⟨1, [], fun vs => PW.val v3, []⟩, ⟨3, [], fun vs => PW.val (ptr b5 (Int.toNat x3 * Rep.sz (Int × (List Int)))), []⟩, ⟨4, [], fun vs => PW.val (ptr b5 (Int.toNat x3 * Rep.sz (Int × (List Int)) + 1)), []⟩, ⟨5, [], fun vs => PW.val v5, []⟩, ⟨8, [], fun vs => PW.val v3, []⟩, ⟨10, [], fun vs => PW.val (ptr b5 (Int.toNat x3 * Rep.sz (Int × (List Int)))), []⟩, ⟨11, [], fun vs => PW.val (ptr b5 (Int.toNat x3 * Rep.sz (Int × (List Int)) + 1)), []⟩, ⟨12, [], fun vs => PW.val v5, []⟩, ⟨14, [], fun vs => PW.at [] w12 x13, []⟩, ⟨15, [], fun vs => PW.val (.int .i64 x13), []⟩, ⟨18, [], fun vs => PW.val (.int .i64 x14), []⟩] [[], [1], [3], [4], [], [8], [10], [11], [12], [14], [15]] 2 rfl (by kernel_rfl) (by kernel_rfl) rfl ?_ ?_
       ·refine StepsE_cons rfl ?_ ?_
        ·intro w14 hB12
         refine DepsE_nil ?_
         refine ⟨_, rfl, ?_⟩
         refine WL_load_box (hC15.grow hB12) 2 rfl rfl Try.isAgg47 rfl rfl ?_
         refine WL_nil ?_
         exact FinE_val (Below.refl _ _) rfl rfl ⟨rfl, rfl⟩
        refine StepsE_cons rfl ?_ ?_
        ·intro w14 hB12
         refine DepsE_cons rfl rfl rfl ?_
         rintro _ _ ⟨rfl, rfl⟩ _
         refine DepsE_nil ?_
         refine ⟨_, rfl, ?_⟩
         refine WL_index_hole (hC15.grow hB12) 1 rfl Try.underlying47 ty70 hE1 hx2 rfl rfl rfl ?_
         refine WL_nil ?_
         exact FinE_val (Below.refl _ _) rfl rfl ⟨rfl, rfl⟩
        refine StepsE_cons rfl ?_ ?_
        ·intro w14 hB12
         refine DepsE_cons rfl rfl rfl ?_
         rintro _ _ ⟨rfl, rfl⟩ _
         refine DepsE_nil ?_
         refine ⟨_, rfl, ?_⟩
         refine WL_field Try.underlying70 rfl rfl (fun w => ⟨_, Try.sizeOf28 w⟩) rfl rfl ?_
         refine WL_nil ?_
         exact FinE_val (Below.refl _ _) rfl rfl ⟨rfl, rfl⟩
        refine StepsE_cons rfl ?_ ?_
        ·intro w14 hB12
         refine DepsE_cons rfl rfl rfl ?_
         rintro _ _ ⟨rfl, rfl⟩ _
         refine DepsE_nil ?_
         refine ⟨_, rfl, ?_⟩
         refine WL_load_hole (fo := 1) (hC15.grow hB12) 1 rfl hE1 rfl rfl Try.isAgg28 rfl rfl ?_
         refine WL_nil ?_
         exact FinE_val (Below.refl _ _) rfl rfl ⟨rfl, rfl⟩
        refine StepsE_cons rfl ?_ ?_
        ·intro w14 hB12
         refine DepsE_nil ?_
         refine ⟨_, rfl, ?_⟩
         refine WL_load_box (hC15.grow hB12) 2 rfl rfl Try.isAgg47 rfl rfl ?_
         refine WL_nil ?_
         exact FinE_val (Below.refl _ _) rfl rfl ⟨rfl, rfl⟩
        refine StepsE_cons rfl ?_ ?_
        ·intro w14 hB12
         refine DepsE_cons rfl rfl rfl ?_
         rintro _ _ ⟨rfl, rfl⟩ _
         refine DepsE_nil ?_
         refine ⟨_, rfl, ?_⟩
         refine WL_index_hole (hC15.grow hB12) 1 rfl Try.underlying47 ty70 hE1 hx2 rfl rfl rfl ?_
         refine WL_nil ?_
         exact FinE_val (Below.refl _ _) rfl rfl ⟨rfl, rfl⟩
        refine StepsE_cons rfl ?_ ?_
        ·intro w14 hB12
         refine DepsE_cons rfl rfl rfl ?_
         rintro _ _ ⟨rfl, rfl⟩ _
         refine DepsE_nil ?_
         refine ⟨_, rfl, ?_⟩
         refine WL_field Try.underlying70 rfl rfl (fun w => ⟨_, Try.sizeOf28 w⟩) rfl rfl ?_
         refine WL_nil ?_
         exact FinE_val (Below.refl _ _) rfl rfl ⟨rfl, rfl⟩
        refine StepsE_cons rfl ?_ ?_
        ·intro w14 hB12
         refine DepsE_cons rfl rfl rfl ?_
         rintro _ _ ⟨rfl, rfl⟩ _
         refine DepsE_nil ?_
         refine ⟨_, rfl, ?_⟩
         refine WL_load_hole (fo := 1) (hC15.grow hB12) 1 rfl hE1 rfl rfl Try.isAgg28 rfl rfl ?_
         refine WL_nil ?_
         exact FinE_val (Below.refl _ _) rfl rfl ⟨rfl, rfl⟩
        refine StepsE_cons rfl ?_ ?_
        ·intro w14 hB12
         refine DepsE_cons rfl rfl rfl ?_
         rintro _ _ ⟨rfl, rfl⟩ _
         refine DepsE_nil ?_
         refine ⟨_, rfl, ?_⟩
         refine WL_index Try.underlying28 ty3 (hC15.ro 0 rfl) hx3 rfl rfl rfl (fun b6 o2 h3 => ?_)
         refine WL_nil ?_
         exact FinE_val (Below.refl _ _) rfl rfl ⟨rfl, _, _, rfl, h3⟩
        refine StepsE_cons rfl ?_ ?_
        ·intro w14 hB12
         refine DepsE_cons rfl rfl rfl ?_
         rintro _ _ ⟨rfl, b6, o2, rfl, h3⟩ _
         refine DepsE_nil ?_
         refine ⟨_, rfl, ?_⟩
         refine WL_load ty3 h3 (Keep.of hB12) rfl rfl (fun v6 h4 => ?_)
         obtain rfl := ro_int h4
         refine WL_nil ?_
         exact FinE_val (Below.refl _ _) rfl rfl ⟨rfl, rfl⟩
        refine StepsE_cons rfl ?_ ?_
        ·intro w14 hB12
         refine DepsE_cons rfl rfl rfl ?_
         rintro _ _ ⟨rfl, rfl⟩ _
         refine DepsE_nil ?_
         refine ⟨_, rfl, ?_⟩
         refine WL_call Try.call42 rfl rfl (c_S_l30Swap x13 a2 a3 x14 hr7) ?_
         intro _ w13 hv4
         obtain ⟨rfl, hB11⟩ := res_int hv4
         refine WL_nil ?_
         exact FinE_val hB11 rfl rfl ⟨rfl, rfl⟩
        exact StepsE_nil
       intro w15 hB13
       refine AllE_cons rfl rfl rfl ?_
       rintro _ _ ⟨rfl, rfl⟩
       refine AllE_cons rfl rfl rfl ?_
       rintro _ _ ⟨rfl, rfl⟩
       refine AllE_cons rfl rfl rfl ?_
       rintro _ _ ⟨rfl, rfl⟩
       refine AllE_cons rfl rfl rfl ?_
       rintro _ _ ⟨rfl, rfl⟩
       refine AllE_cons rfl rfl rfl ?_
       rintro _ _ ⟨rfl, rfl⟩
       refine AllE_cons rfl rfl rfl ?_
       rintro _ _ ⟨rfl, rfl⟩
       refine AllE_cons rfl rfl rfl ?_
       rintro _ _ ⟨rfl, rfl⟩
       refine AllE_cons rfl rfl rfl ?_
       rintro _ _ ⟨rfl, rfl⟩
       refine AllE_cons rfl rfl rfl ?_
       rintro _ _ ⟨rfl, b6, o2, rfl, h3⟩
       refine AllE_cons rfl rfl rfl ?_
       rintro _ _ ⟨rfl, rfl⟩
       refine AllE_cons rfl rfl rfl ?_
       rintro _ _ ⟨rfl, rfl⟩
       refine AllE_nil ?_
       intro hn2 hb2
       have hC16 := hC15.grow hB13
       obtain ⟨x15, hx4, hL2⟩ := bind_some hL2
       refine WA_tk 19 (by kernel_rfl) rfl rfl (fl_index_own hC16 0 rfl Try.underlying28 ty3 hx4 rfl rfl) ?_
       refine WL_index_own hC16 0 rfl Try.underlying28 ty3 hx4 rfl rfl rfl (fun b7 hE2 => ?_)
       refine WL_nil ?_
       refine WA_one 20 (by kernel_rfl) rfl ?_
       have hC18 := hC16.triv (int_val (x14))
       refine WL_store_elem hC18 0 rfl ty3 hE2 hx4 rfl rfl rfl (fun w16 hC17 => ?_)
       try dsimp only [List.set] at hC17
       have hC19 := hC17.f1
       have hC21 := hC19.f1
       have hC20 := own_st70 x12.1 v5 (List.set x12.2 (Int.toNat x9) x14) hC21
       have hC22 := hC20.ownCells.closeElem
       refine WL_nil ?_
       refine WA_done (by kernel_rfl) ?_
       refine blk_normal ?_
       refine nrm_normal ?_
       refine W_reg ?_
       refine WL_move rfl rfl ?_
       refine WL_add rfl rfl rfl ?_
       refine WL_assign rfl rfl ?_
       refine WL_nil ?_
       have hC23 := hC22.f3
       have hC24 := hC23.f1
       have hC25 := hC24.f3
       have hC26 := hC25.f3
       refine nrm_sub (l' := [(1, (.int .i64 a2)), (2, (.int .i64 a3)), (6, (ptr b2 0)), (7, (ptr b3 0)), (8, (.int .i64 x3)), (9, (.int .i64 (w64 (x9 + 1))))]) ⟨rfl, rfl, rfl, rfl, rfl, rfl, trivial⟩ ?_
       exact ⟨k2, Nat.lt_succ_self _, (List.set x8 (Int.toNat x3) (x12.1, (List.set x12.2 (Int.toNat x9) x14))), w64 (x9 + 1), rfl, hC26, hL2⟩
      replace hL2 := ite_f hL2 hc4
      refine W_exit ?_
      refine nrm_exit ?_
      refine nrm_exit ?_
      refine blk_exit ?_
      have hq4 := Option.some.inj hL2
      subst hq4
      refine nrm_sub (l' := [(1, (.int .i64 a2)), (2, (.int .i64 a3)), (6, (ptr b2 0)), (7, (ptr b3 0)), (8, (.int .i64 x3))]) ⟨rfl, rfl, rfl, rfl, rfl, trivial⟩ ?_
      exact ⟨x8, rfl, rfl, hC11⟩
    rintro l4 _ w17 hs4 ⟨x10, rfl, rfl, hC27⟩
    try dsimp only at hL1
    refine blk_normal ?_
    refine nrm_sub' hs4 ?_
    clear hs4
    refine W_reg ?_
    refine WL_move rfl rfl ?_
    refine WL_add rfl rfl rfl ?_
    refine WL_assign rfl rfl ?_
    refine WL_nil ?_
    refine nrm_sub (l' := [(1, (.int .i64 a2)), (2, (.int .i64 a3)), (6, (ptr b2 0)), (7, (ptr b3 0)), (8, (.int .i64 (w64 (x3 + 1))))]) ⟨rfl, rfl, rfl, rfl, rfl, trivial⟩ ?_
    exact ⟨k1, Nat.lt_succ_self _, x10, w64 (x3 + 1), rfl, hC27, hL1⟩
   replace hL1 := ite_f hL1 hc3
   refine W_exit ?_
   refine nrm_exit ?_
   refine nrm_exit ?_
   refine blk_exit ?_
   have hq5 := Option.some.inj hL1
   subst hq5
   refine nrm_sub (l' := [(6, (ptr b2 0)), (7, (ptr b3 0))]) ⟨rfl, rfl, trivial⟩ ?_
   exact ⟨x2, rfl, rfl, hC8⟩
 rintro l5 _ w18 hs5 ⟨x4, rfl, rfl, hC33⟩
 try dsimp only at hF
 refine nrm_sub' hs5 ?_
 clear hs5
 refine W_seq_reg ?_
 refine WL_load_box_agg [v2, v3] hC33 0 rfl rfl rfl Try.isAgg49 Try.sizeOf49 rfl rfl ?_
 refine WL_store_box_aggK (cs' := [v2, v3]) (new := [v2, v3]) hC33 3 rfl rfl (by intro v hv; simp only [List.mem_cons, List.not_mem_nil, or_false] at hv; rcases hv with rfl | rfl; exact (ro_one (hC33.ro 1 rfl)); exact (ro_one (hC33.ro 2 rfl))) rfl Try.sizeOf49 rfl rfl (fun w19 hC34 hKp3 => ?_)
 try dsimp only [List.set] at hC34
 refine WL_nil ?_
 refine W_ret ?_
 have hq6 := Option.some.inj hF
 subst hq6
 refine fn_retG1 rfl (rv_cell_agg (cs' := [v2, v3]) hC34 (i := 3) rfl rfl rfl Try.isAgg49 Try.sizeOf49 rfl) ?_
 have hC36 := hC34.f2
 have hC37 := hC36.f2
 have hC35 := own_st49 v2 x1.1 v3 x4 hC37
 exact ⟨_, rfl, own_res hC35 0 rfl⟩

theorem c_Q_toIntS {w0 : World} (a1 : (List Int)) (u1 : Value) (g1 : RO [] w0 u1 a1) (rr : (List Int)) (hF : Q.toIntS a1 = some rr) :
 Calls Try.prog 43 [u1].toArray w0 fun e w' => ∃ v, e = .returned v ∧ Res w0 rr v w' := by
 refine calls_of_W Try.func43 rfl rfl ?_
 have hC0 := Ctx.start w0
 unfold Q.toIntS at hF
 refine W_seq_reg ?_
 refine WL_assign rfl rfl ?_
 refine WL_nil ?_
 refine W_seq_reg ?_
 refine WL_move rfl rfl ?_
 refine WL_len Try.underlying28 g1 rfl rfl ?_
 obtain ⟨x1, hx1, hF⟩ := bind_some hF
 refine WL_makeSlice hC0 Try.underlying28 ty3 rfl zc3 zr3 hx1 rfl rfl rfl (fun b1 w1 hC1 hB1 => ?_)
 refine WL_assign rfl rfl ?_
 refine WL_nil ?_
 refine W_seq ?_
 refine W_seq_reg ?_
 refine WL_assign rfl rfl ?_
 refine WL_nil ?_
 obtain ⟨r1, hr1, hF⟩ := bind_some hF
 refine W_norm (fun l w => ∃ x4 : (List Int), x4 = r1 ∧ l = [(3, (.slice (some ⟨b1, 0, none⟩) (Int.toNat (List.length a1 : Int)) (Int.toNat (List.length a1 : Int))))] ∧ Ctx [] w0 w [Item.own (.slice (some ⟨b1, 0, none⟩) (Int.toNat (List.length a1 : Int)) (Int.toNat (List.length a1 : Int))) (x4 : (List Int))]) ?_ ?_
 ·refine W_block ?_
  refine W.sub (l' := [(0, u1), (3, (.slice (some ⟨b1, 0, none⟩) (Int.toNat (List.length a1 : Int)) (Int.toNat (List.length a1 : Int)))), (4, (.int .i64 0))]) ?_ ⟨rfl, rfl, rfl, trivial⟩
  refine W_loop (fun k l w => ∃ x2 : (List Int), ∃ x3 : Int, l = [(0, u1), (3, (.slice (some ⟨b1, 0, none⟩) (Int.toNat (List.length a1 : Int)) (Int.toNat (List.length a1 : Int)))), (4, (.int .i64 x3))] ∧ Ctx [] w0 w [Item.own (.slice (some ⟨b1, 0, none⟩) (Int.toNat (List.length a1 : Int)) (Int.toNat (List.length a1 : Int))) (x2 : (List Int))] ∧ Q.toIntS_l1 a1 k x2 x3 = some r1) FUEL ⟨x1, 0, rfl, hC1, hr1⟩ ?_
  clear hr1
  rintro k1 _ w2 ⟨x2, x3, rfl, hC2, hL1⟩
  cases k1 with
  | zero => rw [Q.toIntS_l1] at hL1; cases hL1
  | succ k1 =>
   rw [Q.toIntS_l1] at hL1
   refine W_seq ?_
   refine W_seq_reg ?_
   refine WL_move rfl rfl ?_
   refine WL_move rfl rfl ?_
   refine WL_len Try.underlying28 g1 rfl rfl ?_
   refine WL_lss rfl rfl rfl ?_
   refine WL_nil ?_
   refine W_cond rfl (fun hc1 => ?_) (fun hc1 => ?_)
   ·replace hL1 := ite_t hL1 hc1
    refine W_skip ?_
    refine nrm_normal ?_
    refine W_seq ?_
    refine W_block ?_
    refine W_reg ?_
    refine WL_move rfl rfl ?_
    refine WL_move rfl rfl ?_
    refine WL_move rfl rfl ?_
    refine WL_move rfl rfl ?_
    obtain ⟨x5, hx2, hL1⟩ := bind_some hL1
    refine WL_index Try.underlying28 ty3 g1 hx2 rfl rfl rfl (fun b2 o1 h1 => ?_)
    refine WL_load ty3 h1 hC2.keep rfl rfl (fun v1 h2 => ?_)
    obtain rfl := ro_int h2
    obtain ⟨x6, hx3, hL1⟩ := bind_some hL1
    refine WL_index_own hC2 0 rfl Try.underlying28 ty3 hx3 rfl rfl rfl (fun b3 hE1 => ?_)
    have hC4 := hC2.triv (int_val (x5))
    refine WL_store_elem hC4 0 rfl ty3 hE1 hx3 rfl rfl rfl (fun w3 hC3 => ?_)
    try dsimp only [List.set] at hC3
    refine WL_nil ?_
    refine blk_normal ?_
    refine nrm_normal ?_
    refine W_reg ?_
    refine WL_move rfl rfl ?_
    refine WL_add rfl rfl rfl ?_
    refine WL_assign rfl rfl ?_
    refine WL_nil ?_
    refine nrm_sub (l' := [(0, u1), (3, (.slice (some ⟨b1, 0, none⟩) (Int.toNat (List.length a1 : Int)) (Int.toNat (List.length a1 : Int)))), (4, (.int .i64 (w64 (x3 + 1))))]) ⟨rfl, rfl, rfl, trivial⟩ ?_
    exact ⟨k1, Nat.lt_succ_self _, (List.set x2 (Int.toNat x3) x5), w64 (x3 + 1), rfl, hC3, hL1⟩
   replace hL1 := ite_f hL1 hc1
   refine W_exit ?_
   refine nrm_exit ?_
   refine nrm_exit ?_
   refine blk_exit ?_
   have hq1 := Option.some.inj hL1
   subst hq1
   refine nrm_sub (l' := [(3, (.slice (some ⟨b1, 0, none⟩) (Int.toNat (List.length a1 : Int)) (Int.toNat (List.length a1 : Int))))]) ⟨rfl, trivial⟩ ?_
   exact ⟨x2, rfl, rfl, hC2⟩
 rintro l2 _ w4 hs2 ⟨x4, rfl, rfl, hC5⟩
 try dsimp only at hF
 refine nrm_sub' hs2 ?_
 clear hs2
 refine W_seq_reg ?_
 refine WL_move rfl rfl ?_
 refine WL_assign rfl rfl ?_
 refine WL_nil ?_
 refine W_ret ?_
 have hq2 := Option.some.inj hF
 subst hq2
 refine fn_ret1 rfl rfl ?_
 exact ⟨_, rfl, own_res hC5 0 rfl⟩

theorem c_Q_toAtom {w0 : World} (a1 : (Int × (List Int))) (u1 : Value) (g1 : RO [] w0 u1 a1.2) (rr : (Int × (List Int))) (hF : Q.toAtom a1 = some rr) :
 Calls Try.prog 58 [(.agg #[(.int .i64 a1.1), u1])].toArray w0 fun e w' => ∃ v, e = .returned v ∧ Res w0 rr v w' := by
 refine calls_of_W Try.func58 rfl rfl ?_
 have hC0 := Ctx.start w0
 unfold Q.toAtom at hF
 refine W_seq_reg ?_
 refine WL_boxK (cs := [(.int .i64 a1.1), u1]) hC0 rfl rfl rfl (fun b1 w1 hC1 hB1 hN1 => ?_)
 refine WL_allocK hC1 zero70 rfl rfl (fun b2 w2 hC2 hB2 hN2 => ?_)
 refine WL_nil ?_
 refine W_seq_reg ?_
 refine WL_allocK hC2 zero70 rfl rfl (fun b3 w3 hC3 hB3 hN3 => ?_)
 refine WL_nil ?_
 refine W_seq_reg ?_
 refine WL_field Try.underlying82 rfl rfl (fun w => ⟨_, Try.sizeOf3 w⟩) rfl rfl ?_
 refine WL_load_box hC3 2 rfl rfl Try.isAgg3 rfl rfl ?_
 refine WL_field Try.underlying70 rfl rfl (fun w => ⟨_, Try.sizeOf3 w⟩) rfl rfl ?_
 refine WL_store_boxK (cs' := [(.int .i64 a1.1), (.slice none 0 0)]) hC3 0 rfl rfl rfl rfl Try.sizeOf3 rfl rfl (fun w4 hC4 hKp1 => ?_)
 try dsimp only [List.set] at hC4
 have hk1 := Keep.over (((Keep.of hB1).then hB2).then hB3) (Nat.le_trans ((Keep.of hB1).then hB2).size hN3) hKp1
 have hk2 := Keep.over ((Keep.of hB2).then hB3) (Nat.le_trans (Keep.of hB2).size hN3) hKp1
 have hk3 := Keep.over (Keep.of hB3) hN3 hKp1
 refine WL_nil ?_
 refine W_seq_reg ?_
 refine WL_field Try.underlying82 rfl rfl (fun w => ⟨_, Try.sizeOf28 w⟩) rfl rfl ?_
 refine WL_load_box hC4 2 rfl rfl Try.isAgg28 rfl rfl ?_
 obtain ⟨x1, hr1, hF⟩ := bind_some hF
 refine WL_call Try.call43 rfl rfl (c_Q_toIntS a1.2 u1 (g1.now hC4.keep) x1 hr1) ?_
 rintro v1 w5 ⟨hB4, F1, hv1, hn1, hb1⟩
 have hC5 := hC4.push hB4 (A := Item.own v1 x1) hv1 hn1 hb1
 refine WL_field Try.underlying70 rfl rfl (fun w => ⟨_, Try.sizeOf28 w⟩) rfl rfl ?_
 refine WL_store_boxK (cs' := [(.int .i64 a1.1), v1]) hC5 1 rfl rfl (ro_one (hC5.ro 0 rfl)) rfl Try.sizeOf28 rfl rfl (fun w6 hC6 hKp2 => ?_)
 try dsimp only [List.set] at hC6
 have hk4 := Keep.over (hk1.then hB4) (Nat.le_trans ((Keep.of hB1).then hB2).size hN3) hKp2
 have hk5 := Keep.over (hk2.then hB4) (Nat.le_trans (Keep.of hB2).size hN3) hKp2
 have hk6 := Keep.over (hk3.then hB4) hN3 hKp2
 refine WL_nil ?_
 refine W_seq_reg ?_
 refine WL_load_box_agg [(.int .i64 a1.1), v1] hC6 1 rfl rfl rfl Try.isAgg70 Try.sizeOf70 rfl rfl ?_
 refine WL_store_box_aggK (cs' := [(.int .i64 a1.1), v1]) (new := [(.int .i64 a1.1), v1]) hC6 2 rfl rfl (by intro v hv; simp only [List.mem_cons, List.not_mem_nil, or_false] at hv; rcases hv with rfl | rfl; exact rfl; exact (ro_one (hC6.ro 0 rfl))) rfl Try.sizeOf70 rfl rfl (fun w7 hC7 hKp3 => ?_)
 try dsimp only [List.set] at hC7
 have hk7 := Keep.over hk4 (Nat.le_trans (Keep.of hB1).size hN2) hKp3
 have hk8 := Keep.over hk5 hN2 hKp3
 refine WL_nil ?_
 refine W_ret ?_
 have hq1 := Option.some.inj hF
 subst hq1
 refine fn_retG1 rfl (rv_cell_agg (cs' := [(.int .i64 a1.1), v1]) hC7 (i := 2) rfl rfl rfl Try.isAgg70 Try.sizeOf70 rfl) ?_
 have hC8 := own_st70 a1.1 v1 x1 hC7
 exact ⟨_, rfl, own_res hC8 0 rfl⟩

theorem c_Q_toAtomS {w0 : World} (a1 : (List (Int × (List Int)))) (u1 : Value) (g1 : RO [] w0 u1 a1) (rr : (List (Int × (List Int)))) (hF : Q.toAtomS a1 = some rr) :
 Calls Try.prog 44 [u1].toArray w0 fun e w' => ∃ v, e = .returned v ∧ Res w0 rr v w' := by
 refine calls_of_W Try.func44 rfl rfl ?_
 have hC0 := Ctx.start w0
 unfold Q.toAtomS at hF
 refine W_seq_reg ?_
 refine WL_assign rfl rfl ?_
 refine WL_nil ?_
 refine W_seq_reg ?_
 refine WL_move rfl rfl ?_
 refine WL_len Try.underlying43 g1 rfl rfl ?_
 obtain ⟨x1, hx1, hF⟩ := bind_some hF
 refine WL_makeSlice hC0 Try.underlying47 ty70 rfl zc70 zr70 hx1 rfl rfl rfl (fun b1 w1 hC1 hB1 => ?_)
 refine WL_assign rfl rfl ?_
 refine WL_nil ?_
 refine W_seq ?_
 refine W_seq_reg ?_
 refine WL_assign rfl rfl ?_
 refine WL_nil ?_
 obtain ⟨r1, hr1, hF⟩ := bind_some hF
 refine W_norm (fun l w => ∃ x4 : (List (Int × (List Int))), x4 = r1 ∧ l = [(3, (.slice (some ⟨b1, 0, none⟩) (Int.toNat (List.length a1 : Int)) (Int.toNat (List.length a1 : Int))))] ∧ Ctx [] w0 w [Item.own (.slice (some ⟨b1, 0, none⟩) (Int.toNat (List.length a1 : Int)) (Int.toNat (List.length a1 : Int))) (x4 : (List (Int × (List Int))))]) ?_ ?_
 ·refine W_block ?_
  refine W.sub (l' := [(0, u1), (3, (.slice (some ⟨b1, 0, none⟩) (Int.toNat (List.length a1 : Int)) (Int.toNat (List.length a1 : Int)))), (4, (.int .i64 0))]) ?_ ⟨rfl, rfl, rfl, trivial⟩
  refine W_loop (fun k l w => ∃ x2 : (List (Int × (List Int))), ∃ x3 : Int, l = [(0, u1), (3, (.slice (some ⟨b1, 0, none⟩) (Int.toNat (List.length a1 : Int)) (Int.toNat (List.length a1 : Int)))), (4, (.int .i64 x3))] ∧ Ctx [] w0 w [Item.own (.slice (some ⟨b1, 0, none⟩) (Int.toNat (List.length a1 : Int)) (Int.toNat (List.length a1 : Int))) (x2 : (List (Int × (List Int))))] ∧ Q.toAtomS_l1 a1 k x2 x3 = some r1) FUEL ⟨x1, 0, rfl, hC1, hr1⟩ ?_
  clear hr1
  rintro k1 _ w2 ⟨x2, x3, rfl, hC2, hL1⟩
  cases k1 with
  | zero => rw [Q.toAtomS_l1] at hL1; cases hL1
  | succ k1 =>
   rw [Q.toAtomS_l1] at hL1
   refine W_seq ?_
   refine W_seq_reg ?_
   refine WL_move rfl rfl ?_
   refine WL_move rfl rfl ?_
   refine WL_len Try.underlying43 g1 rfl rfl ?_
   refine WL_lss rfl rfl rfl ?_
   refine WL_nil ?_
   refine W_cond rfl (fun hc1 => ?_) (fun hc1 => ?_)
   ·replace hL1 := ite_t hL1 hc1
    refine W_skip ?_
    refine nrm_normal ?_
    refine W_seq ?_
    refine W_block ?_
    refine W_reg ?_
    refine WL_move rfl rfl ?_
    refine WL_move rfl rfl ?_
    refine WL_move rfl rfl ?_
    refine WL_move rfl rfl ?_
    obtain ⟨x5, hx2, hL1⟩ := bind_some hL1
    refine WL_index Try.underlying43 ty82 g1 hx2 rfl rfl rfl (fun b2 o1 h1 => ?_)
    refine WL_load ty82 h1 hC2.keep rfl rfl (fun v1 h2 => ?_)
    obtain ⟨v2, rfl, h3⟩ := ro_st82 h2
    obtain ⟨x6, hr2, hL1⟩ := bind_some hL1
    refine WL_call Try.call58 rfl rfl (c_Q_toAtom x5 v2 (h3.now hC2.keep) x6 hr2) ?_
    rintro v3 w3 ⟨hB3, F1, hv1, hn1, hb1⟩
    have hC3 := hC2.push hB3 (A := Item.own v3 x6) hv1 hn1 hb1
    obtain ⟨v4, rfl, hC4⟩ := st70_own hC3
    obtain ⟨x7, hx3, hL1⟩ := bind_some hL1
    refine WL_index_own hC4 1 rfl Try.underlying47 ty70 hx3 rfl rfl rfl (fun b3 hE1 => ?_)
    have hC6 := own_st70 x6.1 v4 x6.2 hC4
    refine WL_store_elem hC6 0 rfl ty70 hE1 hx3 rfl rfl rfl (fun w4 hC5 => ?_)
    try dsimp only [List.set] at hC5
    refine WL_nil ?_
    refine blk_normal ?_
    refine nrm_normal ?_
    refine W_reg ?_
    refine WL_move rfl rfl ?_
    refine WL_add rfl rfl rfl ?_
    refine WL_assign rfl rfl ?_
    refine WL_nil ?_
    refine nrm_sub (l' := [(0, u1), (3, (.slice (some ⟨b1, 0, none⟩) (Int.toNat (List.length a1 : Int)) (Int.toNat (List.length a1 : Int)))), (4, (.int .i64 (w64 (x3 + 1))))]) ⟨rfl, rfl, rfl, trivial⟩ ?_
    exact ⟨k1, Nat.lt_succ_self _, (List.set x2 (Int.toNat x3) (x6.1, x6.2)), w64 (x3 + 1), rfl, hC5, hL1⟩
   replace hL1 := ite_f hL1 hc1
   refine W_exit ?_
   refine nrm_exit ?_
   refine nrm_exit ?_
   refine blk_exit ?_
   have hq1 := Option.some.inj hL1
   subst hq1
   refine nrm_sub (l' := [(3, (.slice (some ⟨b1, 0, none⟩) (Int.toNat (List.length a1 : Int)) (Int.toNat (List.length a1 : Int))))]) ⟨rfl, trivial⟩ ?_
   exact ⟨x2, rfl, rfl, hC2⟩
 rintro l2 _ w5 hs2 ⟨x4, rfl, rfl, hC8⟩
 try dsimp only at hF
 refine nrm_sub' hs2 ?_
 clear hs2
 refine W_seq_reg ?_
 refine WL_move rfl rfl ?_
 refine WL_assign rfl rfl ?_
 refine WL_nil ?_
 refine W_ret ?_
 have hq2 := Option.some.inj hF
 subst hq2
 refine fn_ret1 rfl rfl ?_
 exact ⟨_, rfl, own_res hC8 0 rfl⟩

theorem c_Q_toQuery {w0 : World} (a1 : ((List Int) × (List (Int × (List Int))))) (u1 : Value) (g1 : RO [] w0 u1 a1.1) (u2 : Value) (g2 : RO [] w0 u2 a1.2) (rr : ((List Int) × (List (Int × (List Int))))) (hF : Q.toQuery a1 = some rr) :
 Calls Try.prog 23 [(.agg #[u1, u2])].toArray w0 fun e w' => ∃ v, e = .returned v ∧ Res w0 rr v w' := by
 refine calls_of_W Try.func23 rfl rfl ?_
 have hC0 := Ctx.start w0
 unfold Q.toQuery at hF
 refine W_seq_reg ?_
 refine WL_boxK (cs := [u1, u2]) hC0 rfl rfl rfl (fun b1 w1 hC1 hB1 hN1 => ?_)
 refine WL_allocK hC1 zero49 rfl rfl (fun b2 w2 hC2 hB2 hN2 => ?_)
 refine WL_nil ?_
 refine W_seq_reg ?_
 refine WL_allocK hC2 zero49 rfl rfl (fun b3 w3 hC3 hB3 hN3 => ?_)
 refine WL_nil ?_
 refine W_seq_reg ?_
 refine WL_field Try.underlying45 rfl rfl (fun w => ⟨_, Try.sizeOf28 w⟩) rfl rfl ?_
 refine WL_load_box hC3 2 rfl rfl Try.isAgg28 rfl rfl ?_
 obtain ⟨x1, hr1, hF⟩ := bind_some hF
 refine WL_call Try.call43 rfl rfl (c_Q_toIntS a1.1 u1 (g1.now hC3.keep) x1 hr1) ?_
 rintro v1 w4 ⟨hB4, F1, hv1, hn1, hb1⟩
 have hC4 := hC3.push hB4 (A := Item.own v1 x1) hv1 hn1 hb1
 refine WL_field Try.underlying49 rfl rfl (fun w => ⟨_, Try.sizeOf28 w⟩) rfl rfl ?_
 refine WL_store_boxK (cs' := [v1, (.slice none 0 0)]) hC4 1 rfl rfl (ro_one (hC4.ro 0 rfl)) rfl Try.sizeOf28 rfl rfl (fun w5 hC5 hKp1 => ?_)
 try dsimp only [List.set] at hC5
 have hk1 := Keep.over ((((Keep.of hB1).then hB2).then hB3).then hB4) (Nat.le_trans ((Keep.of hB1).then hB2).size hN3) hKp1
 have hk2 := Keep.over (((Keep.of hB2).then hB3).then hB4) (Nat.le_trans (Keep.of hB2).size hN3) hKp1
 have hk3 := Keep.over ((Keep.of hB3).then hB4) hN3 hKp1
 refine WL_nil ?_
 refine W_seq_reg ?_
 refine WL_field Try.underlying45 rfl rfl (fun w => ⟨_, Try.sizeOf43 w⟩) rfl rfl ?_
 refine WL_load_box hC5 3 rfl rfl Try.isAgg43 rfl rfl ?_
 obtain ⟨x2, hr2, hF⟩ := bind_some hF
 refine WL_call Try.call44 rfl rfl (c_Q_toAtomS a1.2 u2 (g2.now hC5.keep) x2 hr2) ?_
 rintro v2 w6 ⟨hB5, F2, hv2, hn2, hb2⟩
 have hC6 := hC5.push hB5 (A := Item.own v2 x2) hv2 hn2 hb2
 refine WL_field Try.underlying49 rfl rfl (fun w => ⟨_, Try.sizeOf47 w⟩) rfl rfl ?_
 refine WL_store_boxK (cs' := [v1, v2]) hC6 2 rfl rfl (ro_one (hC6.ro 0 rfl)) rfl Try.sizeOf47 rfl rfl (fun w7 hC7 hKp2 => ?_)
 try dsimp only [List.set] at hC7
 have hk4 := Keep.over (hk1.then hB5) (Nat.le_trans ((Keep.of hB1).then hB2).size hN3) hKp2
 have hk5 := Keep.over (hk2.then hB5) (Nat.le_trans (Keep.of hB2).size hN3) hKp2
 have hk6 := Keep.over (hk3.then hB5) hN3 hKp2
 refine WL_nil ?_
 refine W_seq_reg ?_
 refine WL_load_box_agg [v1, v2] hC7 2 rfl rfl rfl Try.isAgg49 Try.sizeOf49 rfl rfl ?_
 refine WL_store_box_aggK (cs' := [v1, v2]) (new := [v1, v2]) hC7 3 rfl rfl (by intro v hv; simp only [List.mem_cons, List.not_mem_nil, or_false] at hv; rcases hv with rfl | rfl; exact (ro_one (hC7.ro 1 rfl)); exact (ro_one (hC7.ro 0 rfl))) rfl Try.sizeOf49 rfl rfl (fun w9 hC8 hKp3 => ?_)
 try dsimp only [List.set] at hC8
 have hk7 := Keep.over hk4 (Nat.le_trans (Keep.of hB1).size hN2) hKp3
 have hk8 := Keep.over hk5 hN2 hKp3
 refine WL_nil ?_
 refine W_ret ?_
 have hq1 := Option.some.inj hF
 subst hq1
 refine fn_retG1 rfl (rv_cell_agg (cs' := [v1, v2]) hC8 (i := 3) rfl rfl rfl Try.isAgg49 Try.sizeOf49 rfl) ?_
 have hC11 := hC8.f1
 have hC9 := own_st49 v1 x1 v2 x2 hC11
 exact ⟨_, rfl, own_res hC9 0 rfl⟩

theorem c_Slices_Clone_Lint_int {w0 : World} (a1 : (List Int)) (u1 : Value) (g1 : RO [] w0 u1 a1) (rr : (List Int)) (hF : Slices.Clone_Lint_int a1 = some rr) :
 Calls Try.prog 59 [u1].toArray w0 fun e w' => ∃ v, e = .returned v ∧ Res w0 rr v w' := by
 refine calls_of_W Try.func59 rfl rfl ?_
 have hC0 := Ctx.start w0
 unfold Slices.Clone_Lint_int at hF
 refine W_seq_reg ?_
 refine WL_assign rfl rfl ?_
 refine WL_nil ?_
 refine W_seq ?_
 refine W_seq_reg ?_
 refine WL_move rfl rfl ?_
 refine WL_isnil Try.underlying28 g1 rfl rfl (fun bn1 hb1 => ?_)
 refine WL_nil ?_
 rcases btf bn1 with hc1 | hc1
 ·have ha := hb1 hc1
  subst hc1
  subst ha
  replace hF : (some ([]) : Option (List Int)) = some rr := by simpa [app] using hF
  refine W_cond_t rfl ?_
  refine W_seq_reg ?_
  refine WL_assign rfl rfl ?_
  refine WL_nil ?_
  refine W_ret ?_
  refine nrm_ret ?_
  have hq1 := Option.some.inj hF
  subst hq1
  refine fn_ret1 rfl rfl ?_
  exact ⟨_, rfl, nil_res hC0⟩
 subst hc1
 refine W_cond_f rfl ?_
 refine W_skip ?_
 refine nrm_normal ?_
 refine W_seq_reg ?_
 refine WL_buildSlice (vs := []) hC0 Try.underlying28 ty3 rfl rfl rfl rfl (by simp) rfl rfl (fun b1 w1 hC1 hB1 => ?_)
 have hC2 := hC1.row0 (α := Int)
 have hC3 := hC2.front 1 rfl
 dsimp only [List.eraseIdx, List.cons_append, List.nil_append, List.append_nil] at hC3
 have hC4 : Ctx [] w0 w1 (Item.own (.slice (some ⟨b1, 0, none⟩) 0 0) (([] : List Int) : List Int) :: []) := hC3.rowOwn (by simp [maxLen])
 refine WL_move rfl rfl ?_
 obtain ⟨x1, hx1, hF⟩ := bind_some hF
 refine WL_append_flat (α := Int) hC4 0 rfl g1 hC4.keep Try.underlying28 ty3 rfl hx1 rfl rfl rfl (fun v1 w2 hC5 => ?_)
 try dsimp only [List.set] at hC5
 refine WL_assign rfl rfl ?_
 refine WL_nil ?_
 refine W_ret ?_
 have hq2 := Option.some.inj hF
 subst hq2
 refine fn_ret1 rfl rfl ?_
 exact ⟨_, rfl, own_res hC5 0 rfl⟩

theorem c_M_copyAtom {w0 : World} (a1 : (Int × (List Int))) (u1 : Value) (g1 : RO [] w0 u1 a1.2) (rr : (Int × (List Int))) (hF : M.copyAtom a1 = some rr) :
 Calls Try.prog 62 [(.agg #[(.int .i64 a1.1), u1])].toArray w0 fun e w' => ∃ v, e = .returned v ∧ Res w0 rr v w' := by
 refine calls_of_W Try.func62 rfl rfl ?_
 have hC0 := Ctx.start w0
 unfold M.copyAtom at hF
 refine W_seq_reg ?_
 refine WL_boxK (cs := [(.int .i64 a1.1), u1]) hC0 rfl rfl rfl (fun b1 w1 hC1 hB1 hN1 => ?_)
 refine WL_allocK hC1 zero70 rfl rfl (fun b2 w2 hC2 hB2 hN2 => ?_)
 refine WL_nil ?_
 refine W_seq ?_
 refine W_drawn 7 rfl hmix (fun w3 hB3 => ?_)
 have hC3 := hC2.grow hB3
 refine WA_tk 0 (by kernel_rfl) rfl rfl (fl_field Try.underlying70 rfl rfl (fun w => ⟨_, Try.sizeOf3 w⟩) rfl) ?_
 refine WL_field Try.underlying70 rfl rfl (fun w => ⟨_, Try.sizeOf3 w⟩) rfl rfl ?_
 refine WL_nil ?_
 refine WA_tk 2 (by kernel_rfl) rfl rfl (fl_field Try.underlying70 rfl rfl (fun w => ⟨_, Try.sizeOf28 w⟩) rfl) ?_
 refine WL_field Try.underlying70 rfl rfl (fun w => ⟨_, Try.sizeOf28 w⟩) rfl rfl ?_
 refine WL_nil ?_
 obtain ⟨x1, hr1, hF⟩ := bind_some hF
 refine WA.sub (l' := [(0, (.agg #[(.int .i64 a1.1), u1])), (1, (ptr b1 0)), (2, (ptr b2 0)), (3, (ptr b1 0)), (5, (ptr b1 1))]) ?_ ⟨rfl, rfl, rfl, rfl, rfl, trivial⟩
 refine WA_postsE [⟨1, [], fun vs => PW.val (.int .i64 a1.1), []⟩, ⟨3, [], fun vs => PW.val u1, []⟩, ⟨4, [], fun vs => PW.own x1, []⟩] [[], [], [3]] 2 rfl (by kernel_rfl) (by kernel_rfl) rfl ?_ ?_
 ·refine StepsE_cons rfl ?_ ?_
  ·intro w5 hB5
   refine DepsE_nil ?_
   refine ⟨_, rfl, ?_⟩
   refine WL_load_box (hC3.grow hB5) 1 rfl rfl Try.isAgg3 rfl rfl ?_
   refine WL_nil ?_
   exact FinE_val (Below.refl _ _) rfl rfl ⟨rfl, rfl⟩
  refine StepsE_cons rfl ?_ ?_
  ·intro w5 hB5
   refine DepsE_nil ?_
   refine ⟨_, rfl, ?_⟩
   refine WL_load_box (hC3.grow hB5) 1 rfl rfl Try.isAgg28 rfl rfl ?_
   refine WL_nil ?_
   exact FinE_val (Below.refl _ _) rfl rfl ⟨rfl, rfl⟩
  refine StepsE_cons rfl ?_ ?_
  ·intro w5 hB5
   refine DepsE_cons rfl rfl rfl ?_
   rintro _ _ ⟨rfl, rfl⟩ _
   refine DepsE_nil ?_
   refine ⟨_, rfl, ?_⟩
   refine WL_call Try.call59 rfl rfl (c_Slices_Clone_Lint_int a1.2 u1 (g1.now (hC3.keep.then hB5)) x1 hr1) ?_
   rintro v1 w4 ⟨hB4, F1, hv1, hn1, hb1⟩
   refine WL_nil ?_
   exact FinE_own hB4 rfl rfl hv1 hn1 hb1 (Val.inh hv1)
  exact StepsE_nil
 intro w6 hB6
 refine AllE_cons rfl rfl rfl ?_
 rintro _ _ ⟨rfl, rfl⟩
 refine AllE_cons rfl rfl rfl ?_
 rintro _ _ ⟨rfl, rfl⟩
 refine AllE_cons rfl rfl rfl ?_
 intro v1 F1 hv1
 refine AllE_nil ?_
 intro hn2 hb2
 have hC4 := hC3.pushL hB6 (Bs := [Item.own v1 (x1 : (List Int))]) (Fs := [F1]) ⟨F1, _, rfl, hv1, rfl⟩ (by simpa using hn2) (fun b h => (hb2 b (by simpa using h)).1)
 refine WA_tk 5 (by kernel_rfl) rfl rfl (fl_build (vs := [(0, (.int .i64 a1.1)), (1, v1)]) rfl rfl (built70_0_1 rfl (ro_cells (hC4.ro 0 rfl)))) ?_
 refine WL_build (vs := [(0, (.int .i64 a1.1)), (1, v1)]) rfl rfl rfl (built70_0_1 rfl (ro_cells (hC4.ro 0 rfl))) ?_
 refine WL_nil ?_
 refine WA_one 6 (by kernel_rfl) rfl ?_
 refine WL_store_box_aggK (cs' := [(.int .i64 a1.1), v1]) (new := [(.int .i64 a1.1), v1]) hC4 1 rfl rfl (by intro v hv; simp only [List.mem_cons, List.not_mem_nil, or_false] at hv; rcases hv with rfl | rfl; exact rfl; exact (ro_one (hC4.ro 0 rfl))) rfl Try.sizeOf70 rfl rfl (fun w7 hC5 hKp1 => ?_)
 try dsimp only [List.set] at hC5
 have hk1 := Keep.over ((((Keep.of hB1).then hB2).then hB3).then hB6) (Nat.le_trans (Keep.of hB1).size hN2) hKp1
 have hk2 := Keep.over (((Keep.of hB2).then hB3).then hB6) hN2 hKp1
 refine WL_nil ?_
 refine WA_done (by kernel_rfl) ?_
 refine nrm_normal ?_
 refine W_ret ?_
 have hq1 := Option.some.inj hF
 subst hq1
 refine fn_retG1 rfl (rv_cell_agg (cs' := [(.int .i64 a1.1), v1]) hC5 (i := 1) rfl rfl rfl Try.isAgg70 Try.sizeOf70 rfl) ?_
 have hC6 := own_st70 a1.1 v1 x1 hC5
 exact ⟨_, rfl, own_res hC6 0 rfl⟩

end Go.Gx.Px
