/- The contracts of the Go functions against the pure functions, printed by program. Conditions: each says them. -/
import Derived.Test.YtbgcgjhbnclpdaaDoorC3
set_option linter.unusedVariables false
set_option linter.unusedSimpArgs false
set_option maxRecDepth 100000
set_option maxHeartbeats 4000000
namespace Go.Gx.Px
open Go.Proofs Go.RowKit

theorem c_Q_FnRequests {w0 : World} (a1 : (List UInt8)) (u1 : Value) (g1 : RO [] w0 u1 a1) (rr : Bool) (hF : Q.FnRequests a1 = some rr) :
 Calls Tryd.prog 8 [u1].toArray w0 fun e w' => ∃ v, e = .returned v ∧ Res w0 rr v w' := by
 refine calls_of_W Tryd.func8 rfl rfl ?_
 have hC0 := Ctx.start w0
 unfold Q.FnRequests at hF
 refine W_seq_reg ?_
 refine WL_assign rfl rfl ?_
 refine WL_nil (W_seq (W_seq_reg ?_))
 refine WL_move rfl rfl ?_
 obtain ⟨x1, hr1, hF⟩ := bind_some hF
 refine WL_call Tryd.call32 rfl rfl (c_Q_big a1 u1 (g1.now hC0.keep) x1 hr1) ?_
 intro _ w1 hv1
 obtain ⟨rfl, hB1⟩ := res_bool hv1
 have hC1 := hC0.grow hB1
 refine WL_nil ?_
 refine W_cond rfl (fun hc1 => ?_) (fun hc1 => ?_)
 ·replace hF := ite_t hF hc1
  refine W_seq_reg ?_
  refine WL_assign rfl rfl ?_
  refine WL_nil (W_ret (nrm_ret ?_))
  have hq1 := Option.some.inj hF
  subst hq1
  refine fn_ret1 rfl rfl ?_
  exact ⟨_, rfl, bool_res hC1 _⟩
 replace hF := ite_f hF hc1
 refine W_skip (nrm_normal (W_seq_reg ?_))
 refine WL_move rfl rfl ?_
 obtain ⟨x2, hr2, hF⟩ := bind_some hF
 refine WL_call Tryd.call33 rfl rfl (c_S_DrawEncodeRequest a1 u1 (g1.now hC1.keep) x2 hr2) ?_
 rintro _ w2 ⟨hB2, v1, v2, F1, F2, rfl, hv2, hv3, hn1, hb1⟩
 obtain ⟨rfl, rfl⟩ := val_int hv3
 have hC2 := hC1.pushL hB2 (Bs := [Item.own v1 x2.1]) (Fs := [F1]) ⟨F1, _, rfl, hv2, rfl⟩ (by simpa using hn1) (fun b h => hb1 b (by simpa using h))
 obtain ⟨v3, rfl, hC3⟩ := st29_own hC2
 refine WL_move rfl rfl ?_
 refine WL_extract rfl rfl rfl ?_
 refine WL_extract rfl rfl rfl ?_
 refine WL_allocK hC3 zero29 rfl rfl (fun b1 w3 hC4 hB3 hN1 => ?_)
 refine WL_store_box_aggK (cs' := [(.int .i64 x2.1.1), v3]) (new := [(.int .i64 x2.1.1), v3]) hC4 0 rfl rfl (by intro v hv; simp only [List.mem_cons, List.not_mem_nil, or_false] at hv; rcases hv with rfl | rfl; exact rfl; exact (ro_one (hC4.ro 1 rfl))) rfl Tryd.sizeOf29 rfl rfl (fun w4 hC5 hKp1 => ?_)
 try dsimp only [List.set] at hC5
 have hk1 := Keep.over (((Keep.of hB1).then hB2).then hB3) (Nat.le_trans ((Keep.of hB1).then hB2).size hN1) hKp1
 have hk2 := Keep.over ((Keep.of hB2).then hB3) (Nat.le_trans (Keep.of hB2).size hN1) hKp1
 have hk3 := Keep.over (Keep.of hB3) hN1 hKp1
 refine WL_assign rfl rfl ?_
 refine WL_nil (W_seq_reg ?_)
 refine WL_load_box_agg [(.int .i64 x2.1.1), v3] hC5 0 rfl rfl rfl Tryd.isAgg29 Tryd.sizeOf29 rfl rfl ?_
 refine WL_move rfl rfl ?_
 obtain ⟨x3, hr3, hF⟩ := bind_some hF
 refine WL_call Tryd.call17 rfl rfl (c_M_EncodeRequest (x2.1.1, x2.1.2) v3 ((hC5.ro 1 rfl).now (Keep.refl _ _)) x2.2 x3 hr3) ?_
 intro _ w5 hv4
 obtain ⟨rfl, hB4⟩ := res_str hv4
 have hC6 := hC5.grow hB4
 refine WL_assign rfl rfl ?_
 refine WL_nil (W_seq_reg ?_)
 refine WL_move rfl rfl ?_
 obtain ⟨x4, hr4, hF⟩ := bind_some hF
 refine WL_call Tryd.call25 rfl rfl (c_M_DecodeRequest x3 x4 hr4) ?_
 rintro _ w6 ⟨hB5, v4, v5, v6, F3, F4, F5, rfl, hv5, hv6, hv7, hn2, hb2⟩
 obtain ⟨rfl, rfl⟩ := val_int hv6
 obtain ⟨rfl, rfl⟩ := val_bool hv7
 have hC7 := hC6.pushL hB5 (Bs := [Item.own v4 x4.1]) (Fs := [F3]) ⟨F3, _, rfl, hv5, rfl⟩ (by simpa using hn2) (fun b h => hb2 b (by simpa using h))
 obtain ⟨v7, rfl, hC8⟩ := st29_own hC7
 refine WL_move rfl rfl ?_
 refine WL_extract rfl rfl rfl ?_
 refine WL_extract rfl rfl rfl ?_
 refine WL_extract rfl rfl rfl ?_
 refine WL_allocK hC8 zero29 rfl rfl (fun b2 w7 hC9 hB6 hN2 => ?_)
 refine WL_store_box_aggK (cs' := [(.int .i64 x4.1.1), v7]) (new := [(.int .i64 x4.1.1), v7]) hC9 0 rfl rfl (by intro v hv; simp only [List.mem_cons, List.not_mem_nil, or_false] at hv; rcases hv with rfl | rfl; exact rfl; exact (ro_one (hC9.ro 1 rfl))) rfl Tryd.sizeOf29 rfl rfl (fun w9 hC10 hKp2 => ?_)
 try dsimp only [List.set] at hC10
 have hk4 := Keep.over (((hk1.then hB4).then hB5).then hB6) (Nat.le_trans ((hk1.then hB4).then hB5).size hN2) hKp2
 have hk5 := Keep.over (((hk2.then hB4).then hB5).then hB6) (Nat.le_trans ((hk2.then hB4).then hB5).size hN2) hKp2
 have hk6 := Keep.over (((hk3.then hB4).then hB5).then hB6) (Nat.le_trans ((hk3.then hB4).then hB5).size hN2) hKp2
 have hk7 := Keep.over (((Keep.of hB4).then hB5).then hB6) (Nat.le_trans ((Keep.of hB4).then hB5).size hN2) hKp2
 have hk8 := Keep.over ((Keep.of hB5).then hB6) (Nat.le_trans (Keep.of hB5).size hN2) hKp2
 have hk9 := Keep.over (Keep.of hB6) hN2 hKp2
 refine WL_assign rfl rfl ?_
 refine WL_assign rfl rfl ?_
 refine WL_nil (W_seq ?_)
 obtain ⟨r1, hr5, hF⟩ := bind_some hF
 refine W_cut (fun l w => ∃ x5 : Bool, x5 = r1 ∧ l = [(0, u1), (76, (.bool x5))] ∧ Below w9.heap.size w9 w ∧ Ctx [] w0 w []) ?_ ?_
 ·refine W_reg ?_
  refine WL_move rfl rfl ?_
  refine WL_load_box_agg [(.int .i64 x2.1.1), v3] hC10 2 rfl rfl rfl Tryd.isAgg29 Tryd.sizeOf29 rfl rfl ?_
  refine WL_move rfl rfl ?_
  obtain ⟨x6, hr6, hr5⟩ := bind_some hr5
  refine WL_call Tryd.call15 rfl rfl (c_S_EncodeRequest (x2.1.1, x2.1.2) v3 ((hC10.ro 3 rfl).now (Keep.refl _ _)) x2.2 x6 hr6) ?_
  intro _ w11 hv8
  obtain ⟨rfl, hB8⟩ := res_str hv8
  have hC12 := hC10.grow hB8
  refine WL_str_neq rfl rfl rfl ?_
  refine WL_move rfl rfl ?_
  refine WL_fork (fun hc2 => ?_) (fun hc2 => ?_)
  ·replace hr5 := ite_t hr5 hc2
   refine WL_guard_skip rfl rfl (by simp) rfl ?_
   refine WL_guard_skip rfl rfl (by simp) rfl ?_
   refine WL_guard_skip rfl rfl (by simp) rfl ?_
   refine WL_guard_skip rfl rfl (by simp) rfl ?_
   refine WL_guard_skip rfl rfl (by simp) rfl ?_
   refine WL_guard_skip rfl rfl (by simp) rfl ?_
   refine WL_pick_t rfl rfl rfl ?_
   refine WL_move rfl rfl ?_
   refine WL_guard_skip rfl rfl (by simp) rfl ?_
   refine WL_guard_skip rfl rfl (by simp) rfl ?_
   refine WL_guard_skip rfl rfl (by simp [undef]) rfl ?_
   refine WL_guard_skip rfl rfl (by simp [undef]) rfl ?_
   refine WL_guard_skip rfl rfl (by simp [undef]) rfl ?_
   refine WL_guard_skip rfl rfl (by simp [undef]) rfl ?_
   refine WL_guard_skip rfl rfl (by simp [undef]) rfl ?_
   refine WL_guard_skip rfl rfl (by simp [undef]) rfl ?_
   refine WL_guard_skip rfl rfl (by simp [undef]) rfl ?_
   refine WL_guard_skip rfl rfl (by simp [undef]) rfl ?_
   refine WL_guard_skip rfl rfl (by simp [undef]) rfl ?_
   refine WL_guard_skip rfl rfl (by simp [undef]) rfl ?_
   refine WL_guard_skip rfl rfl (by simp [undef]) rfl ?_
   refine WL_guard_skip rfl rfl (by simp [undef]) rfl ?_
   refine WL_guard_skip rfl rfl (by simp [undef]) rfl ?_
   refine WL_guard_skip rfl rfl (by simp [undef]) rfl ?_
   refine WL_guard_skip rfl rfl (by simp [undef]) rfl ?_
   refine WL_guard_skip rfl rfl (by simp [undef]) rfl ?_
   refine WL_guard_skip rfl rfl (by simp [undef]) rfl ?_
   refine WL_guard_skip rfl rfl (by simp [undef]) rfl ?_
   refine WL_guard_skip rfl rfl (by simp) rfl ?_
   refine WL_pick_t rfl rfl rfl ?_
   refine WL_nil ?_
   have hq2 := Option.some.inj hr5
   subst hq2
   have hC13 := hC12.h0
   refine nrm_sub (l' := [(0, u1), (76, (.bool true))]) ⟨rfl, rfl, trivial⟩ ?_
   exact ⟨true, rfl, rfl, (Keep.of hB8).below, hC13⟩
  replace hr5 := ite_f hr5 hc2
  refine WL_guard rfl rfl ?_
  refine WL_move rfl rfl ?_
  refine WL_guard rfl rfl ?_
  refine WL_load_box_agg [(.int .i64 x2.1.1), v3] hC12 2 rfl rfl rfl Tryd.isAgg29 Tryd.sizeOf29 rfl rfl ?_
  refine WL_guard rfl rfl ?_
  refine WL_move rfl rfl ?_
  obtain ⟨x7, hr7, hr5⟩ := bind_some hr5
  refine WL_guard rfl rfl ?_
  refine WL_call Tryd.call15 rfl rfl (c_S_EncodeRequest (x2.1.1, x2.1.2) v3 ((hC12.ro 3 rfl).now (Keep.refl _ _)) x2.2 x7 hr7) ?_
  intro _ w12 hv9
  obtain ⟨rfl, hB9⟩ := res_str hv9
  have hC14 := hC12.grow hB9
  refine WL_guard rfl rfl ?_
  refine WL_str_neq rfl rfl rfl ?_
  refine WL_guard rfl rfl ?_
  refine WL_bool_neq Tryd.underlying4 rfl rfl rfl ?_
  refine WL_pick_f rfl rfl rfl ?_
  refine WL_move rfl rfl ?_
  refine WL_fork (fun hc3 => ?_) (fun hc3 => ?_)
  ·replace hr5 := ite_t hr5 hc3
   refine WL_guard_skip rfl rfl (by simp) rfl ?_
   refine WL_guard_skip rfl rfl (by simp) rfl ?_
   refine WL_guard_skip rfl rfl (by simp [undef]) rfl ?_
   refine WL_guard_skip rfl rfl (by simp [undef]) rfl ?_
   refine WL_guard_skip rfl rfl (by simp [undef]) rfl ?_
   refine WL_guard_skip rfl rfl (by simp [undef]) rfl ?_
   refine WL_guard_skip rfl rfl (by simp [undef]) rfl ?_
   refine WL_guard_skip rfl rfl (by simp [undef]) rfl ?_
   refine WL_guard_skip rfl rfl (by simp [undef]) rfl ?_
   refine WL_guard_skip rfl rfl (by simp [undef]) rfl ?_
   refine WL_guard_skip rfl rfl (by simp [undef]) rfl ?_
   refine WL_guard_skip rfl rfl (by simp [undef]) rfl ?_
   refine WL_guard_skip rfl rfl (by simp [undef]) rfl ?_
   refine WL_guard_skip rfl rfl (by simp [undef]) rfl ?_
   refine WL_guard_skip rfl rfl (by simp [undef]) rfl ?_
   refine WL_guard_skip rfl rfl (by simp [undef]) rfl ?_
   refine WL_guard_skip rfl rfl (by simp [undef]) rfl ?_
   refine WL_guard_skip rfl rfl (by simp [undef]) rfl ?_
   refine WL_guard_skip rfl rfl (by simp [undef]) rfl ?_
   refine WL_guard_skip rfl rfl (by simp [undef]) rfl ?_
   refine WL_guard_skip rfl rfl (by simp) rfl ?_
   refine WL_pick_t rfl rfl rfl ?_
   refine WL_nil ?_
   have hq3 := Option.some.inj hr5
   subst hq3
   have hC15 := hC14.h0
   refine nrm_sub (l' := [(0, u1), (76, (.bool true))]) ⟨rfl, rfl, trivial⟩ ?_
   exact ⟨true, rfl, rfl, ((Keep.of hB8).then hB9).below, hC15⟩
  replace hr5 := ite_f hr5 hc3
  refine WL_guard rfl rfl ?_
  refine WL_move rfl rfl ?_
  refine WL_guard rfl rfl ?_
  refine WL_move rfl rfl ?_
  refine WL_fork (fun hc4 => ?_) (fun hc4 => ?_)
  ·replace hr5 := ite_t hr5 hc4
   refine WL_guard rfl rfl ?_
   refine WL_move rfl rfl ?_
   refine WL_guard rfl rfl ?_
   refine WL_move rfl rfl ?_
   refine WL_guard rfl rfl ?_
   refine WL_neq rfl rfl rfl ?_
   refine WL_guard rfl rfl ?_
   refine WL_move rfl rfl ?_
   refine WL_fork (fun hc5 => ?_) (fun hc5 => ?_)
   ·replace hr5 := ite_t hr5 hc5
    refine WL_guard_skip rfl rfl (by simp) rfl ?_
    refine WL_guard_skip rfl rfl (by simp) rfl ?_
    refine WL_guard_skip rfl rfl (by simp) rfl ?_
    refine WL_guard_skip rfl rfl (by simp) rfl ?_
    refine WL_guard_skip rfl rfl (by simp) rfl ?_
    refine WL_guard rfl rfl ?_
    refine WL_pick_t rfl rfl rfl ?_
    refine WL_guard rfl rfl ?_
    refine WL_move rfl rfl ?_
    refine WL_guard_skip rfl rfl (by simp) rfl ?_
    refine WL_guard_skip rfl rfl (by simp) rfl ?_
    refine WL_guard_skip rfl rfl (by simp) rfl ?_
    refine WL_guard_skip rfl rfl (by simp) rfl ?_
    refine WL_guard_skip rfl rfl (by simp) rfl ?_
    refine WL_guard_skip rfl rfl (by simp) rfl ?_
    refine WL_guard rfl rfl ?_
    refine WL_pick_t rfl rfl rfl ?_
    refine WL_guard rfl rfl ?_
    refine WL_pick_t rfl rfl rfl ?_
    refine WL_pick_f rfl rfl rfl ?_
    refine WL_nil ?_
    have hq4 := Option.some.inj hr5
    subst hq4
    have hC16 := hC14.h0
    refine nrm_sub (l' := [(0, u1), (76, (.bool true))]) ⟨rfl, rfl, trivial⟩ ?_
    exact ⟨true, rfl, rfl, ((Keep.of hB8).then hB9).below, hC16⟩
   replace hr5 := ite_f hr5 hc5
   refine WL_guard rfl rfl ?_
   refine WL_field Tryd.underlying29 rfl rfl (fun w => ⟨_, Tryd.sizeOf3 w⟩) rfl rfl ?_
   refine WL_guard rfl rfl ?_
   refine WL_load_box hC14 0 rfl rfl Tryd.isAgg3 rfl rfl ?_
   refine WL_guard rfl rfl ?_
   refine WL_field Tryd.underlying29 rfl rfl (fun w => ⟨_, Tryd.sizeOf3 w⟩) rfl rfl ?_
   refine WL_guard rfl rfl ?_
   refine WL_load_box hC14 2 rfl rfl Tryd.isAgg3 rfl rfl ?_
   refine WL_guard rfl rfl ?_
   refine WL_neq rfl rfl rfl ?_
   refine WL_guard rfl rfl ?_
   refine WL_pick_f rfl rfl rfl ?_
   refine WL_guard rfl rfl ?_
   refine WL_move rfl rfl ?_
   refine WL_fork (fun hc6 => ?_) (fun hc6 => ?_)
   ·replace hr5 := ite_t hr5 hc6
    refine WL_guard_skip rfl rfl (by simp) rfl ?_
    refine WL_guard_skip rfl rfl (by simp) rfl ?_
    refine WL_guard_skip rfl rfl (by simp) rfl ?_
    refine WL_guard_skip rfl rfl (by simp) rfl ?_
    refine WL_guard_skip rfl rfl (by simp) rfl ?_
    refine WL_guard_skip rfl rfl (by simp) rfl ?_
    refine WL_guard rfl rfl ?_
    refine WL_pick_t rfl rfl rfl ?_
    refine WL_guard rfl rfl ?_
    refine WL_pick_t rfl rfl rfl ?_
    refine WL_pick_f rfl rfl rfl ?_
    refine WL_nil ?_
    have hq5 := Option.some.inj hr5
    subst hq5
    have hC17 := hC14.h0
    refine nrm_sub (l' := [(0, u1), (76, (.bool true))]) ⟨rfl, rfl, trivial⟩ ?_
    exact ⟨true, rfl, rfl, ((Keep.of hB8).then hB9).below, hC17⟩
   replace hr5 := ite_f hr5 hc6
   refine WL_guard rfl rfl ?_
   refine WL_field Tryd.underlying29 rfl rfl (fun w => ⟨_, Tryd.sizeOf22 w⟩) rfl rfl ?_
   refine WL_guard rfl rfl ?_
   refine WL_load_box hC14 0 rfl rfl Tryd.isAgg22 rfl rfl ?_
   refine WL_guard rfl rfl ?_
   refine WL_field Tryd.underlying29 rfl rfl (fun w => ⟨_, Tryd.sizeOf22 w⟩) rfl rfl ?_
   refine WL_guard rfl rfl ?_
   refine WL_load_box hC14 2 rfl rfl Tryd.isAgg22 rfl rfl ?_
   obtain ⟨x8, hr8, hr5⟩ := bind_some hr5
   refine WL_guard rfl rfl ?_
   refine WL_call Tryd.call34 rfl rfl (c_Q_sameInts x4.1.2 v7 ((hC14.ro 1 rfl).now (Keep.refl _ _)) x2.1.2 v3 ((hC14.ro 3 rfl).now (Keep.refl _ _)) x8 hr8) ?_
   intro _ w13 hv10
   obtain ⟨rfl, hB10⟩ := res_bool hv10
   have hC18 := hC14.grow hB10
   refine WL_guard rfl rfl ?_
   refine WL_not rfl rfl ?_
   refine WL_guard rfl rfl ?_
   refine WL_pick_f rfl rfl rfl ?_
   refine WL_guard rfl rfl ?_
   refine WL_pick_t rfl rfl rfl ?_
   refine WL_pick_f rfl rfl rfl ?_
   refine WL_nil ?_
   have hq6 := Option.some.inj hr5
   subst hq6
   have hC19 := hC18.h0
   refine nrm_sub (l' := [(0, u1), (76, (.bool (!x8)))]) ⟨rfl, rfl, trivial⟩ ?_
   exact ⟨(!x8), rfl, rfl, (((Keep.of hB8).then hB9).then hB10).below, hC19⟩
  replace hr5 := ite_f hr5 hc4
  refine WL_guard_skip rfl rfl (by simp) rfl ?_
  refine WL_guard_skip rfl rfl (by simp) rfl ?_
  refine WL_guard_skip rfl rfl (by simp) rfl ?_
  refine WL_guard_skip rfl rfl (by simp) rfl ?_
  refine WL_guard_skip rfl rfl (by simp [undef]) rfl ?_
  refine WL_guard_skip rfl rfl (by simp [undef]) rfl ?_
  refine WL_guard_skip rfl rfl (by simp [undef]) rfl ?_
  refine WL_guard_skip rfl rfl (by simp [undef]) rfl ?_
  refine WL_guard_skip rfl rfl (by simp [undef]) rfl ?_
  refine WL_guard_skip rfl rfl (by simp) rfl ?_
  refine WL_guard_skip rfl rfl (by simp) rfl ?_
  refine WL_guard_skip rfl rfl (by simp [undef]) rfl ?_
  refine WL_guard_skip rfl rfl (by simp [undef]) rfl ?_
  refine WL_guard_skip rfl rfl (by simp [undef]) rfl ?_
  refine WL_guard_skip rfl rfl (by simp [undef]) rfl ?_
  refine WL_guard_skip rfl rfl (by simp [undef]) rfl ?_
  refine WL_guard_skip rfl rfl (by simp [undef]) rfl ?_
  refine WL_guard_skip rfl rfl (by simp) rfl ?_
  refine WL_guard rfl rfl ?_
  refine WL_pick_f rfl rfl rfl ?_
  refine WL_pick_f rfl rfl rfl ?_
  refine WL_nil ?_
  have hq7 := Option.some.inj hr5
  subst hq7
  have hC20 := hC14.h0
  refine nrm_sub (l' := [(0, u1), (76, (.bool false))]) ⟨rfl, rfl, trivial⟩ ?_
  exact ⟨false, rfl, rfl, ((Keep.of hB8).then hB9).below, hC20⟩
 rintro _ w10 ⟨x5, rfl, rfl, hB7, hC11⟩
 try dsimp only at hF
 refine W_cond rfl (fun hc7 => ?_) (fun hc7 => ?_)
 ·replace hF := ite_t hF hc7
  refine W_seq_reg ?_
  refine WL_assign rfl rfl ?_
  refine WL_nil (W_ret (nrm_ret ?_))
  have hq8 := Option.some.inj hF
  subst hq8
  refine fn_ret1 rfl rfl ?_
  exact ⟨_, rfl, bool_res hC11 _⟩
 replace hF := ite_f hF hc7
 refine W_skip (nrm_normal (W_seq_reg ?_))
 refine WL_move rfl rfl ?_
 obtain ⟨x9, hr9, hF⟩ := bind_some hF
 refine WL_call Tryd.call35 rfl rfl (c_S_DrawDecodeRequest a1 u1 (g1.now hC11.keep) x9 hr9) ?_
 intro _ w14 hv11
 obtain ⟨rfl, hB11⟩ := res_str hv11
 have hC21 := hC11.grow hB11
 refine WL_assign rfl rfl ?_
 refine WL_nil (W_seq_reg ?_)
 refine WL_move rfl rfl ?_
 obtain ⟨x10, hr10, hF⟩ := bind_some hF
 refine WL_call Tryd.call25 rfl rfl (c_M_DecodeRequest x9 x10 hr10) ?_
 rintro _ w15 ⟨hB12, v8, v9, v10, F6, F7, F8, rfl, hv12, hv13, hv14, hn3, hb3⟩
 obtain ⟨rfl, rfl⟩ := val_int hv13
 obtain ⟨rfl, rfl⟩ := val_bool hv14
 have hC22 := hC21.pushL hB12 (Bs := [Item.own v8 x10.1]) (Fs := [F6]) ⟨F6, _, rfl, hv12, rfl⟩ (by simpa using hn3) (fun b h => hb3 b (by simpa using h))
 obtain ⟨v11, rfl, hC23⟩ := st29_own hC22
 refine WL_move rfl rfl ?_
 refine WL_extract rfl rfl rfl ?_
 refine WL_extract rfl rfl rfl ?_
 refine WL_extract rfl rfl rfl ?_
 refine WL_allocK hC23 zero29 rfl rfl (fun b3 w16 hC24 hB13 hN3 => ?_)
 refine WL_store_box_aggK (cs' := [(.int .i64 x10.1.1), v11]) (new := [(.int .i64 x10.1.1), v11]) hC24 0 rfl rfl (by intro v hv; simp only [List.mem_cons, List.not_mem_nil, or_false] at hv; rcases hv with rfl | rfl; exact rfl; exact (ro_one (hC24.ro 1 rfl))) rfl Tryd.sizeOf29 rfl rfl (fun w17 hC25 hKp3 => ?_)
 try dsimp only [List.set] at hC25
 have hk10 := Keep.over ((((hk4.then hB7).then hB11).then hB12).then hB13) (Nat.le_trans (((hk4.then hB7).then hB11).then hB12).size hN3) hKp3
 have hk11 := Keep.over ((((hk5.then hB7).then hB11).then hB12).then hB13) (Nat.le_trans (((hk5.then hB7).then hB11).then hB12).size hN3) hKp3
 have hk12 := Keep.over ((((hk6.then hB7).then hB11).then hB12).then hB13) (Nat.le_trans (((hk6.then hB7).then hB11).then hB12).size hN3) hKp3
 have hk13 := Keep.over ((((hk7.then hB7).then hB11).then hB12).then hB13) (Nat.le_trans (((hk7.then hB7).then hB11).then hB12).size hN3) hKp3
 have hk14 := Keep.over ((((hk8.then hB7).then hB11).then hB12).then hB13) (Nat.le_trans (((hk8.then hB7).then hB11).then hB12).size hN3) hKp3
 have hk15 := Keep.over ((((hk9.then hB7).then hB11).then hB12).then hB13) (Nat.le_trans (((hk9.then hB7).then hB11).then hB12).size hN3) hKp3
 have hk16 := Keep.over ((((Keep.of hB7).then hB11).then hB12).then hB13) (Nat.le_trans (((Keep.of hB7).then hB11).then hB12).size hN3) hKp3
 have hk17 := Keep.over (((Keep.of hB11).then hB12).then hB13) (Nat.le_trans ((Keep.of hB11).then hB12).size hN3) hKp3
 have hk18 := Keep.over ((Keep.of hB12).then hB13) (Nat.le_trans (Keep.of hB12).size hN3) hKp3
 have hk19 := Keep.over (Keep.of hB13) hN3 hKp3
 refine WL_assign rfl rfl ?_
 refine WL_assign rfl rfl ?_
 refine WL_nil (W_seq_reg ?_)
 refine WL_move rfl rfl ?_
 obtain ⟨x11, hr11, hF⟩ := bind_some hF
 refine WL_call Tryd.call24 rfl rfl (c_S_DecodeRequest x9 x11 hr11) ?_
 rintro _ w18 ⟨hB14, v12, v13, v14, F9, F10, F11, rfl, hv15, hv16, hv17, hn4, hb4⟩
 obtain ⟨rfl, rfl⟩ := val_int hv16
 obtain ⟨rfl, rfl⟩ := val_bool hv17
 have hC26 := hC25.pushL hB14 (Bs := [Item.own v12 x11.1]) (Fs := [F9]) ⟨F9, _, rfl, hv15, rfl⟩ (by simpa using hn4) (fun b h => hb4 b (by simpa using h))
 obtain ⟨v15, rfl, hC27⟩ := st29_own hC26
 refine WL_move rfl rfl ?_
 refine WL_extract rfl rfl rfl ?_
 refine WL_extract rfl rfl rfl ?_
 refine WL_extract rfl rfl rfl ?_
 refine WL_allocK hC27 zero29 rfl rfl (fun b4 w19 hC28 hB15 hN4 => ?_)
 refine WL_store_box_aggK (cs' := [(.int .i64 x11.1.1), v15]) (new := [(.int .i64 x11.1.1), v15]) hC28 0 rfl rfl (by intro v hv; simp only [List.mem_cons, List.not_mem_nil, or_false] at hv; rcases hv with rfl | rfl; exact rfl; exact (ro_one (hC28.ro 1 rfl))) rfl Tryd.sizeOf29 rfl rfl (fun w20 hC29 hKp4 => ?_)
 try dsimp only [List.set] at hC29
 have hk20 := Keep.over ((hk10.then hB14).then hB15) (Nat.le_trans (hk10.then hB14).size hN4) hKp4
 have hk21 := Keep.over ((hk11.then hB14).then hB15) (Nat.le_trans (hk11.then hB14).size hN4) hKp4
 have hk22 := Keep.over ((hk12.then hB14).then hB15) (Nat.le_trans (hk12.then hB14).size hN4) hKp4
 have hk23 := Keep.over ((hk13.then hB14).then hB15) (Nat.le_trans (hk13.then hB14).size hN4) hKp4
 have hk24 := Keep.over ((hk14.then hB14).then hB15) (Nat.le_trans (hk14.then hB14).size hN4) hKp4
 have hk25 := Keep.over ((hk15.then hB14).then hB15) (Nat.le_trans (hk15.then hB14).size hN4) hKp4
 have hk26 := Keep.over ((hk16.then hB14).then hB15) (Nat.le_trans (hk16.then hB14).size hN4) hKp4
 have hk27 := Keep.over ((hk17.then hB14).then hB15) (Nat.le_trans (hk17.then hB14).size hN4) hKp4
 have hk28 := Keep.over ((hk18.then hB14).then hB15) (Nat.le_trans (hk18.then hB14).size hN4) hKp4
 have hk29 := Keep.over ((hk19.then hB14).then hB15) (Nat.le_trans (hk19.then hB14).size hN4) hKp4
 have hk30 := Keep.over ((Keep.of hB14).then hB15) (Nat.le_trans (Keep.of hB14).size hN4) hKp4
 have hk31 := Keep.over (Keep.of hB15) hN4 hKp4
 refine WL_assign rfl rfl ?_
 refine WL_assign rfl rfl ?_
 refine WL_nil (W_seq ?_)
 obtain ⟨r2, hr12, hF⟩ := bind_some hF
 refine W_cut (fun l w => ∃ x12 : Bool, x12 = r2 ∧ l = [(0, u1), (103, (.bool x12))] ∧ Below w20.heap.size w20 w ∧ Ctx [] w0 w []) ?_ ?_
 ·refine W_reg ?_
  refine WL_move rfl rfl ?_
  refine WL_move rfl rfl ?_
  refine WL_bool_neq Tryd.underlying4 rfl rfl rfl ?_
  refine WL_move rfl rfl ?_
  refine WL_fork (fun hc8 => ?_) (fun hc8 => ?_)
  ·replace hr12 := ite_t hr12 hc8
   refine WL_guard_skip rfl rfl (by simp) rfl ?_
   refine WL_guard_skip rfl rfl (by simp) rfl ?_
   refine WL_guard_skip rfl rfl (by simp [undef]) rfl ?_
   refine WL_guard_skip rfl rfl (by simp [undef]) rfl ?_
   refine WL_guard_skip rfl rfl (by simp [undef]) rfl ?_
   refine WL_guard_skip rfl rfl (by simp [undef]) rfl ?_
   refine WL_guard_skip rfl rfl (by simp [undef]) rfl ?_
   refine WL_guard_skip rfl rfl (by simp) rfl ?_
   refine WL_pick_t rfl rfl rfl ?_
   refine WL_nil ?_
   have hq9 := Option.some.inj hr12
   subst hq9
   have hC31 := hC29.h0
   refine nrm_sub (l' := [(0, u1), (103, (.bool true))]) ⟨rfl, rfl, trivial⟩ ?_
   exact ⟨true, rfl, rfl, (Below.refl _ _), hC31⟩
  replace hr12 := ite_f hr12 hc8
  refine WL_guard rfl rfl ?_
  refine WL_move rfl rfl ?_
  refine WL_guard rfl rfl ?_
  refine WL_move rfl rfl ?_
  refine WL_fork (fun hc9 => ?_) (fun hc9 => ?_)
  ·replace hr12 := ite_t hr12 hc9
   refine WL_guard rfl rfl ?_
   refine WL_load_box_agg [(.int .i64 x10.1.1), v11] hC29 2 rfl rfl rfl Tryd.isAgg29 Tryd.sizeOf29 rfl rfl ?_
   refine WL_guard rfl rfl ?_
   refine WL_move rfl rfl ?_
   obtain ⟨x13, hr13, hr12⟩ := bind_some hr12
   refine WL_guard rfl rfl ?_
   refine WL_call Tryd.call17 rfl rfl (c_M_EncodeRequest (x10.1.1, x10.1.2) v11 ((hC29.ro 3 rfl).now (Keep.refl _ _)) x10.2.1 x13 hr13) ?_
   intro _ w22 hv18
   obtain ⟨rfl, hB17⟩ := res_str hv18
   have hC32 := hC29.grow hB17
   refine WL_guard rfl rfl ?_
   refine WL_move rfl rfl ?_
   refine WL_guard rfl rfl ?_
   refine WL_str_neq rfl rfl rfl ?_
   refine WL_guard rfl rfl ?_
   refine WL_pick_t rfl rfl rfl ?_
   refine WL_pick_f rfl rfl rfl ?_
   refine WL_nil ?_
   have hq10 := Option.some.inj hr12
   subst hq10
   have hC33 := hC32.h0
   refine nrm_sub (l' := [(0, u1), (103, (.bool (!decide (x13 = x9))))]) ⟨rfl, rfl, trivial⟩ ?_
   exact ⟨(!decide (x13 = x9)), rfl, rfl, (Keep.of hB17).below, hC33⟩
  replace hr12 := ite_f hr12 hc9
  refine WL_guard_skip rfl rfl (by simp) rfl ?_
  refine WL_guard_skip rfl rfl (by simp) rfl ?_
  refine WL_guard_skip rfl rfl (by simp) rfl ?_
  refine WL_guard_skip rfl rfl (by simp) rfl ?_
  refine WL_guard_skip rfl rfl (by simp) rfl ?_
  refine WL_guard rfl rfl ?_
  refine WL_pick_f rfl rfl rfl ?_
  refine WL_pick_f rfl rfl rfl ?_
  refine WL_nil ?_
  have hq11 := Option.some.inj hr12
  subst hq11
  have hC34 := hC29.h0
  refine nrm_sub (l' := [(0, u1), (103, (.bool false))]) ⟨rfl, rfl, trivial⟩ ?_
  exact ⟨false, rfl, rfl, (Below.refl _ _), hC34⟩
 rintro _ w21 ⟨x12, rfl, rfl, hB16, hC30⟩
 try dsimp only at hF
 refine W_cond rfl (fun hc10 => ?_) (fun hc10 => ?_)
 ·replace hF := ite_t hF hc10
  refine W_seq_reg ?_
  refine WL_assign rfl rfl ?_
  refine WL_nil (W_ret (nrm_ret ?_))
  have hq12 := Option.some.inj hF
  subst hq12
  refine fn_ret1 rfl rfl ?_
  exact ⟨_, rfl, bool_res hC30 _⟩
 replace hF := ite_f hF hc10
 refine W_skip (nrm_normal (W_seq_reg ?_))
 refine WL_move rfl rfl ?_
 obtain ⟨x14, hr14, hF⟩ := bind_some hF
 refine WL_call Tryd.call36 rfl rfl (c_S_DrawEncodeReply a1 u1 (g1.now hC30.keep) x14 hr14) ?_
 rintro v16 w23 ⟨hB18, F12, hv19, hn5, hb5⟩
 have hC35 := hC30.push hB18 (A := Item.own v16 x14) hv19 hn5 hb5
 refine WL_assign rfl rfl ?_
 refine WL_nil (W_seq_reg ?_)
 refine WL_move rfl rfl ?_
 obtain ⟨x15, hr15, hF⟩ := bind_some hF
 refine WL_call Tryd.call22 rfl rfl (c_M_EncodeReply x14 v16 ((hC35.ro 0 rfl).now (Keep.refl _ _)) x15 hr15) ?_
 intro _ w24 hv20
 obtain ⟨rfl, hB19⟩ := res_str hv20
 have hC36 := hC35.grow hB19
 refine WL_assign rfl rfl ?_
 refine WL_nil (W_seq_reg ?_)
 refine WL_move rfl rfl ?_
 obtain ⟨x16, hr16, hF⟩ := bind_some hF
 refine WL_call Tryd.call29 rfl rfl (c_M_DecodeReply x15 x16 hr16) ?_
 rintro _ w25 ⟨hB20, v17, v18, F13, F14, rfl, hv21, hv22, hn6, hb6⟩
 obtain ⟨rfl, rfl⟩ := val_bool hv22
 have hC37 := hC36.pushL hB20 (Bs := [Item.own v17 x16.1]) (Fs := [F13]) ⟨F13, _, rfl, hv21, rfl⟩ (by simpa using hn6) (fun b h => hb6 b (by simpa using h))
 refine WL_move rfl rfl ?_
 refine WL_extract rfl rfl rfl ?_
 refine WL_extract rfl rfl rfl ?_
 refine WL_assign rfl rfl ?_
 refine WL_assign rfl rfl ?_
 refine WL_nil (W_seq ?_)
 obtain ⟨r3, hr17, hF⟩ := bind_some hF
 refine W_cut (fun l w => ∃ x17 : Bool, x17 = r3 ∧ l = [(0, u1), (132, (.bool x17))] ∧ Below w25.heap.size w25 w ∧ Ctx [] w0 w []) ?_ ?_
 ·refine W_reg ?_
  refine WL_move rfl rfl ?_
  refine WL_move rfl rfl ?_
  obtain ⟨x18, hr18, hr17⟩ := bind_some hr17
  refine WL_call Tryd.call20 rfl rfl (c_S_EncodeReply x14 v16 ((hC37.ro 1 rfl).now (Keep.refl _ _)) x18 hr18) ?_
  intro _ w27 hv23
  obtain ⟨rfl, hB22⟩ := res_str hv23
  have hC39 := hC37.grow hB22
  refine WL_str_neq rfl rfl rfl ?_
  refine WL_move rfl rfl ?_
  refine WL_fork (fun hc11 => ?_) (fun hc11 => ?_)
  ·replace hr17 := ite_t hr17 hc11
   refine WL_guard_skip rfl rfl (by simp) rfl ?_
   refine WL_guard_skip rfl rfl (by simp) rfl ?_
   refine WL_guard_skip rfl rfl (by simp) rfl ?_
   refine WL_guard_skip rfl rfl (by simp) rfl ?_
   refine WL_guard_skip rfl rfl (by simp) rfl ?_
   refine WL_pick_t rfl rfl rfl ?_
   refine WL_move rfl rfl ?_
   refine WL_guard_skip rfl rfl (by simp) rfl ?_
   refine WL_guard_skip rfl rfl (by simp) rfl ?_
   refine WL_guard_skip rfl rfl (by simp [undef]) rfl ?_
   refine WL_guard_skip rfl rfl (by simp [undef]) rfl ?_
   refine WL_guard_skip rfl rfl (by simp [undef]) rfl ?_
   refine WL_guard_skip rfl rfl (by simp [undef]) rfl ?_
   refine WL_guard_skip rfl rfl (by simp) rfl ?_
   refine WL_pick_t rfl rfl rfl ?_
   refine WL_nil ?_
   have hq13 := Option.some.inj hr17
   subst hq13
   have hC40 := hC39.h0
   refine nrm_sub (l' := [(0, u1), (132, (.bool true))]) ⟨rfl, rfl, trivial⟩ ?_
   exact ⟨true, rfl, rfl, (Keep.of hB22).below, hC40⟩
  replace hr17 := ite_f hr17 hc11
  refine WL_guard rfl rfl ?_
  refine WL_move rfl rfl ?_
  refine WL_guard rfl rfl ?_
  refine WL_move rfl rfl ?_
  obtain ⟨x19, hr19, hr17⟩ := bind_some hr17
  refine WL_guard rfl rfl ?_
  refine WL_call Tryd.call20 rfl rfl (c_S_EncodeReply x14 v16 ((hC39.ro 1 rfl).now (Keep.refl _ _)) x19 hr19) ?_
  intro _ w28 hv24
  obtain ⟨rfl, hB23⟩ := res_str hv24
  have hC41 := hC39.grow hB23
  refine WL_guard rfl rfl ?_
  refine WL_str_neq rfl rfl rfl ?_
  refine WL_guard rfl rfl ?_
  refine WL_bool_neq Tryd.underlying4 rfl rfl rfl ?_
  refine WL_pick_f rfl rfl rfl ?_
  refine WL_move rfl rfl ?_
  refine WL_fork (fun hc12 => ?_) (fun hc12 => ?_)
  ·replace hr17 := ite_t hr17 hc12
   refine WL_guard_skip rfl rfl (by simp) rfl ?_
   refine WL_guard_skip rfl rfl (by simp) rfl ?_
   refine WL_guard_skip rfl rfl (by simp [undef]) rfl ?_
   refine WL_guard_skip rfl rfl (by simp [undef]) rfl ?_
   refine WL_guard_skip rfl rfl (by simp [undef]) rfl ?_
   refine WL_guard_skip rfl rfl (by simp [undef]) rfl ?_
   refine WL_guard_skip rfl rfl (by simp) rfl ?_
   refine WL_pick_t rfl rfl rfl ?_
   refine WL_nil ?_
   have hq14 := Option.some.inj hr17
   subst hq14
   have hC42 := hC41.h0
   refine nrm_sub (l' := [(0, u1), (132, (.bool true))]) ⟨rfl, rfl, trivial⟩ ?_
   exact ⟨true, rfl, rfl, ((Keep.of hB22).then hB23).below, hC42⟩
  replace hr17 := ite_f hr17 hc12
  refine WL_guard rfl rfl ?_
  refine WL_move rfl rfl ?_
  refine WL_guard rfl rfl ?_
  refine WL_move rfl rfl ?_
  refine WL_fork (fun hc13 => ?_) (fun hc13 => ?_)
  ·replace hr17 := ite_t hr17 hc13
   refine WL_guard rfl rfl ?_
   refine WL_move rfl rfl ?_
   refine WL_guard rfl rfl ?_
   refine WL_move rfl rfl ?_
   obtain ⟨x20, hr20, hr17⟩ := bind_some hr17
   refine WL_guard rfl rfl ?_
   refine WL_call Tryd.call37 rfl rfl (c_S_SameFacts x16.1 v17 ((hC41.ro 0 rfl).now (Keep.refl _ _)) x14 v16 ((hC41.ro 1 rfl).now (Keep.refl _ _)) x20 hr20) ?_
   intro _ w29 hv25
   obtain ⟨rfl, hB24⟩ := res_bool hv25
   have hC43 := hC41.grow hB24
   refine WL_guard rfl rfl ?_
   refine WL_not rfl rfl ?_
   refine WL_guard rfl rfl ?_
   refine WL_pick_t rfl rfl rfl ?_
   refine WL_pick_f rfl rfl rfl ?_
   refine WL_nil ?_
   have hq15 := Option.some.inj hr17
   subst hq15
   have hC44 := hC43.h0
   refine nrm_sub (l' := [(0, u1), (132, (.bool (!x20)))]) ⟨rfl, rfl, trivial⟩ ?_
   exact ⟨(!x20), rfl, rfl, (((Keep.of hB22).then hB23).then hB24).below, hC44⟩
  replace hr17 := ite_f hr17 hc13
  refine WL_guard_skip rfl rfl (by simp) rfl ?_
  refine WL_guard_skip rfl rfl (by simp) rfl ?_
  refine WL_guard_skip rfl rfl (by simp) rfl ?_
  refine WL_guard_skip rfl rfl (by simp) rfl ?_
  refine WL_guard rfl rfl ?_
  refine WL_pick_f rfl rfl rfl ?_
  refine WL_pick_f rfl rfl rfl ?_
  refine WL_nil ?_
  have hq16 := Option.some.inj hr17
  subst hq16
  have hC45 := hC41.h0
  refine nrm_sub (l' := [(0, u1), (132, (.bool false))]) ⟨rfl, rfl, trivial⟩ ?_
  exact ⟨false, rfl, rfl, ((Keep.of hB22).then hB23).below, hC45⟩
 rintro _ w26 ⟨x17, rfl, rfl, hB21, hC38⟩
 try dsimp only at hF
 refine W_cond rfl (fun hc14 => ?_) (fun hc14 => ?_)
 ·replace hF := ite_t hF hc14
  refine W_seq_reg ?_
  refine WL_assign rfl rfl ?_
  refine WL_nil (W_ret (nrm_ret ?_))
  have hq17 := Option.some.inj hF
  subst hq17
  refine fn_ret1 rfl rfl ?_
  exact ⟨_, rfl, bool_res hC38 _⟩
 replace hF := ite_f hF hc14
 refine W_skip (nrm_normal (W_seq_reg ?_))
 refine WL_move rfl rfl ?_
 obtain ⟨x21, hr21, hF⟩ := bind_some hF
 refine WL_call Tryd.call38 rfl rfl (c_S_DrawDecodeReply a1 u1 (g1.now hC38.keep) x21 hr21) ?_
 intro _ w30 hv26
 obtain ⟨rfl, hB25⟩ := res_str hv26
 have hC46 := hC38.grow hB25
 refine WL_assign rfl rfl ?_
 refine WL_nil (W_seq_reg ?_)
 refine WL_move rfl rfl ?_
 obtain ⟨x22, hr22, hF⟩ := bind_some hF
 refine WL_call Tryd.call29 rfl rfl (c_M_DecodeReply x21 x22 hr22) ?_
 rintro _ w31 ⟨hB26, v19, v20, F15, F16, rfl, hv27, hv28, hn7, hb7⟩
 obtain ⟨rfl, rfl⟩ := val_bool hv28
 have hC47 := hC46.pushL hB26 (Bs := [Item.own v19 x22.1]) (Fs := [F15]) ⟨F15, _, rfl, hv27, rfl⟩ (by simpa using hn7) (fun b h => hb7 b (by simpa using h))
 refine WL_move rfl rfl ?_
 refine WL_extract rfl rfl rfl ?_
 refine WL_extract rfl rfl rfl ?_
 refine WL_assign rfl rfl ?_
 refine WL_assign rfl rfl ?_
 refine WL_nil (W_seq_reg ?_)
 refine WL_move rfl rfl ?_
 obtain ⟨x23, hr23, hF⟩ := bind_some hF
 refine WL_call Tryd.call28 rfl rfl (c_S_DecodeReply x21 x23 hr23) ?_
 rintro _ w32 ⟨hB27, v21, v22, F17, F18, rfl, hv29, hv30, hn8, hb8⟩
 obtain ⟨rfl, rfl⟩ := val_bool hv30
 have hC48 := hC47.pushL hB27 (Bs := [Item.own v21 x23.1]) (Fs := [F17]) ⟨F17, _, rfl, hv29, rfl⟩ (by simpa using hn8) (fun b h => hb8 b (by simpa using h))
 refine WL_move rfl rfl ?_
 refine WL_extract rfl rfl rfl ?_
 refine WL_extract rfl rfl rfl ?_
 refine WL_assign rfl rfl ?_
 refine WL_assign rfl rfl ?_
 refine WL_nil ?_
 obtain ⟨r4, hr24, hF⟩ := bind_some hF
 refine W_cut (fun l w => ∃ x24 : Bool, x24 = r4 ∧ l = [(2, (.bool x24))] ∧ Below w32.heap.size w32 w ∧ Ctx [] w0 w []) ?_ ?_
 ·refine W_reg ?_
  refine WL_move rfl rfl ?_
  refine WL_move rfl rfl ?_
  refine WL_bool_eql Tryd.underlying4 rfl rfl rfl ?_
  refine WL_move rfl rfl ?_
  refine WL_fork (fun hc15 => ?_) (fun hc15 => ?_)
  ·replace hr24 := ite_t hr24 hc15
   refine WL_guard rfl rfl ?_
   refine WL_move rfl rfl ?_
   refine WL_guard rfl rfl ?_
   refine WL_not rfl rfl ?_
   refine WL_guard rfl rfl ?_
   refine WL_move rfl rfl ?_
   refine WL_fork (fun hc16 => ?_) (fun hc16 => ?_)
   ·replace hr24 := ite_t hr24 hc16
    refine WL_guard_skip rfl rfl (by simp) rfl ?_
    refine WL_guard_skip rfl rfl (by simp) rfl ?_
    refine WL_guard_skip rfl rfl (by simp) rfl ?_
    refine WL_guard_skip rfl rfl (by simp) rfl ?_
    refine WL_guard rfl rfl ?_
    refine WL_pick_t rfl rfl rfl ?_
    refine WL_pick_t rfl rfl rfl ?_
    refine WL_assign rfl rfl ?_
    refine WL_nil ?_
    have hq18 := Option.some.inj hr24
    subst hq18
    have hC50 := hC48.h0
    refine nrm_sub (l' := [(2, (.bool true))]) ⟨rfl, trivial⟩ ?_
    exact ⟨true, rfl, rfl, (Below.refl _ _), hC50⟩
   replace hr24 := ite_f hr24 hc16
   refine WL_guard rfl rfl ?_
   refine WL_move rfl rfl ?_
   obtain ⟨x25, hr25, hr24⟩ := bind_some hr24
   refine WL_guard rfl rfl ?_
   refine WL_call Tryd.call22 rfl rfl (c_M_EncodeReply x22.1 v19 ((hC48.ro 1 rfl).now (Keep.refl _ _)) x25 hr25) ?_
   intro _ w34 hv31
   obtain ⟨rfl, hB29⟩ := res_str hv31
   have hC51 := hC48.grow hB29
   refine WL_guard rfl rfl ?_
   refine WL_move rfl rfl ?_
   refine WL_guard rfl rfl ?_
   refine WL_str_eql rfl rfl rfl ?_
   refine WL_guard rfl rfl ?_
   refine WL_pick_f rfl rfl rfl ?_
   refine WL_pick_t rfl rfl rfl ?_
   refine WL_assign rfl rfl ?_
   refine WL_nil ?_
   have hq19 := Option.some.inj hr24
   subst hq19
   have hC52 := hC51.h0
   refine nrm_sub (l' := [(2, (.bool (decide (x25 = x21))))]) ⟨rfl, trivial⟩ ?_
   exact ⟨(decide (x25 = x21)), rfl, rfl, (Keep.of hB29).below, hC52⟩
  replace hr24 := ite_f hr24 hc15
  refine WL_guard_skip rfl rfl (by simp) rfl ?_
  refine WL_guard_skip rfl rfl (by simp) rfl ?_
  refine WL_guard_skip rfl rfl (by simp) rfl ?_
  refine WL_guard_skip rfl rfl (by simp [undef]) rfl ?_
  refine WL_guard_skip rfl rfl (by simp [undef]) rfl ?_
  refine WL_guard_skip rfl rfl (by simp [undef]) rfl ?_
  refine WL_guard_skip rfl rfl (by simp [undef]) rfl ?_
  refine WL_guard_skip rfl rfl (by simp) rfl ?_
  refine WL_pick_f rfl rfl rfl ?_
  refine WL_assign rfl rfl ?_
  refine WL_nil ?_
  have hq20 := Option.some.inj hr24
  subst hq20
  have hC53 := hC48.h0
  refine nrm_sub (l' := [(2, (.bool false))]) ⟨rfl, trivial⟩ ?_
  exact ⟨false, rfl, rfl, (Below.refl _ _), hC53⟩
 rintro _ w33 ⟨x24, rfl, rfl, hB28, hC49⟩
 try dsimp only at hF
 refine W_ret ?_
 have hq21 := Option.some.inj hF
 subst hq21
 refine fn_ret1 rfl rfl ?_
 exact ⟨_, rfl, bool_res hC49 _⟩

end Go.Gx.Px
