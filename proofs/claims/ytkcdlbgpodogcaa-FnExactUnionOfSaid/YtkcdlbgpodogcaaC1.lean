/- The contracts of the Go functions against the pure functions, printed by program. Conditions: each says them. -/
import Derived.Test.YtkcdlbgpodogcaaTy
import Derived.Test.YtkcdlbgpodogcaaPure
set_option linter.unusedVariables false
set_option linter.unusedSimpArgs false
set_option maxRecDepth 100000
set_option maxHeartbeats 4000000
namespace Go.Gx.Px
open Go.Proofs Go.RowKit

theorem c_Q_szIntS {w0 : World} (a1 : (List Int)) (u1 : Value) (g1 : RO [] w0 u1 a1) (a2 : Int) (rr : Int) (hF : Q.szIntS a1 a2 = some rr) :
    Calls Try.prog 111 [u1, (.int .i64 a2)].toArray w0 fun e w' => ∃ v, e = .returned v ∧ Res w0 rr v w' := by
  refine calls_of_W Try.func111 rfl rfl ?_
  have hC0 := Ctx.start w0
  unfold Q.szIntS at hF
  refine W_seq_reg ?_
  refine WL_assign rfl rfl ?_
  refine WL_nil ?_
  refine W_seq_reg ?_
  refine WL_move rfl rfl ?_
  refine WL_move rfl rfl ?_
  refine WL_len Try.underlying22 g1 rfl rfl ?_
  refine WL_sub rfl rfl rfl ?_
  refine WL_assign rfl rfl ?_
  refine WL_nil ?_
  refine W_seq ?_
  refine W_seq_reg ?_
  refine WL_move rfl rfl ?_
  refine WL_lss rfl rfl rfl ?_
  refine WL_nil ?_
  refine W_cond rfl (fun hc1 => ?_) (fun hc1 => ?_)
  · replace hF := ite_t hF hc1
    refine W_seq_reg ?_
    refine WL_assign rfl rfl ?_
    refine WL_nil ?_
    refine W_ret ?_
    refine nrm_ret ?_
    have hq1 := Option.some.inj hF
    subst hq1
    refine fn_ret1 rfl rfl ?_
    exact ⟨_, rfl, int_res hC0 _⟩
  · replace hF := ite_f hF hc1
    refine W_skip ?_
    refine nrm_normal ?_
    refine W_seq_reg ?_
    refine WL_move rfl rfl ?_
    refine WL_assign rfl rfl ?_
    refine WL_nil ?_
    refine W_ret ?_
    have hq2 := Option.some.inj hF
    subst hq2
    refine fn_ret1 rfl rfl ?_
    exact ⟨_, rfl, int_res hC0 _⟩

theorem c_Q_szFact {w0 : World} (a1 : (Int × (List Int))) (u1 : Value) (g1 : RO [] w0 u1 a1.2) (a2 : Int) (rr : Int) (hF : Q.szFact a1 a2 = some rr) :
    Calls Try.prog 89 [(.agg #[(.int .i64 a1.1), u1]), (.int .i64 a2)].toArray w0 fun e w' => ∃ v, e = .returned v ∧ Res w0 rr v w' := by
  refine calls_of_W Try.func89 rfl rfl ?_
  have hC0 := Ctx.start w0
  unfold Q.szFact at hF
  refine W_seq_reg ?_
  refine WL_box (cs := [(.int .i64 a1.1), u1]) hC0 rfl rfl rfl (fun b1 w1 hC1 hB1 => ?_)
  refine WL_assign rfl rfl ?_
  refine WL_nil ?_
  refine W_seq_reg ?_
  refine WL_field Try.underlying67 rfl rfl (fun w => ⟨_, Try.sizeOf22 w⟩) rfl rfl ?_
  refine WL_load_box hC1 0 rfl rfl Try.isAgg22 rfl rfl ?_
  refine WL_move rfl rfl ?_
  obtain ⟨x1, hr1, hF⟩ := bind_some hF
  refine WL_call Try.call111 rfl rfl (c_Q_szIntS a1.2 u1 (g1.now hC1.keep) a2 x1 hr1) ?_
  intro _ w2 hv1
  obtain ⟨rfl, hB2⟩ := res_int hv1
  have hC2 := hC1.grow hB2
  refine WL_assign rfl rfl ?_
  refine WL_nil ?_
  refine W_seq ?_
  refine W_seq_reg ?_
  refine WL_move rfl rfl ?_
  refine WL_lss rfl rfl rfl ?_
  refine WL_nil ?_
  refine W_cond rfl (fun hc1 => ?_) (fun hc1 => ?_)
  · replace hF := ite_t hF hc1
    refine W_seq_reg ?_
    refine WL_assign rfl rfl ?_
    refine WL_nil ?_
    refine W_ret ?_
    refine nrm_ret ?_
    have hq1 := Option.some.inj hF
    subst hq1
    refine fn_ret1 rfl rfl ?_
    exact ⟨_, rfl, int_res hC2 _⟩
  · replace hF := ite_f hF hc1
    refine W_skip ?_
    refine nrm_normal ?_
    refine W_seq_reg ?_
    refine WL_move rfl rfl ?_
    refine WL_assign rfl rfl ?_
    refine WL_nil ?_
    refine W_ret ?_
    have hq2 := Option.some.inj hF
    subst hq2
    refine fn_ret1 rfl rfl ?_
    exact ⟨_, rfl, int_res hC2 _⟩

theorem c_Q_szFactS {w0 : World} (a1 : (List (Int × (List Int)))) (u1 : Value) (g1 : RO [] w0 u1 a1) (a2 : Int) (rr : Int) (hF : Q.szFactS a1 a2 = some rr) :
    Calls Try.prog 37 [u1, (.int .i64 a2)].toArray w0 fun e w' => ∃ v, e = .returned v ∧ Res w0 rr v w' := by
  refine calls_of_W Try.func37 rfl rfl ?_
  have hC0 := Ctx.start w0
  unfold Q.szFactS at hF
  refine W_seq_reg ?_
  refine WL_assign rfl rfl ?_
  refine WL_nil ?_
  refine W_seq_reg ?_
  refine WL_move rfl rfl ?_
  refine WL_move rfl rfl ?_
  refine WL_len Try.underlying26 g1 rfl rfl ?_
  refine WL_sub rfl rfl rfl ?_
  refine WL_assign rfl rfl ?_
  refine WL_nil ?_
  refine W_seq ?_
  refine W_seq_reg ?_
  refine WL_move rfl rfl ?_
  refine WL_lss rfl rfl rfl ?_
  refine WL_nil ?_
  refine W_cond rfl (fun hc1 => ?_) (fun hc1 => ?_)
  · replace hF := ite_t hF hc1
    refine W_seq_reg ?_
    refine WL_assign rfl rfl ?_
    refine WL_nil ?_
    refine W_ret ?_
    refine nrm_ret ?_
    have hq1 := Option.some.inj hF
    subst hq1
    refine fn_ret1 rfl rfl ?_
    exact ⟨_, rfl, int_res hC0 _⟩
  · replace hF := ite_f hF hc1
    refine W_skip ?_
    refine nrm_normal ?_
    refine W_seq ?_
    refine W_seq_reg ?_
    refine WL_assign rfl rfl ?_
    refine WL_nil ?_
    obtain ⟨r1, hr1, hF⟩ := bind_some hF
    refine W_norm (fun l w => ∃ x3 : Int, .inl x3 = r1 ∧ l = [(1, (.int .i64 x3))] ∧ Below w0.heap.size w0 w ∧ Ctx [] w0 w []) ?_ ?_
    · refine W_block ?_
      refine W.sub (l' := [(0, u1), (1, (.int .i64 (w64 (a2 - (List.length a1 : Int))))), (5, (.int .i64 0))]) ?_ ⟨rfl, rfl, rfl, trivial⟩
      refine W_loop (fun k l w => ∃ x1 : Int, ∃ x2 : Int, l = [(0, u1), (1, (.int .i64 x1)), (5, (.int .i64 x2))] ∧ Below w0.heap.size w0 w ∧ Ctx [] w0 w [] ∧ Q.szFactS_l1 a1 k x1 x2 = some r1) FUEL ⟨w64 (a2 - (List.length a1 : Int)), 0, rfl, (Below.refl _ _), hC0, hr1⟩ ?_
      clear hr1
      rintro k1 _ w1 ⟨x1, x2, rfl, hB1, hC1, hL1⟩
      cases k1 with
      | zero => rw [Q.szFactS_l1] at hL1; cases hL1
      | succ k1 =>
        rw [Q.szFactS_l1] at hL1
        refine W_seq ?_
        refine W_seq_reg ?_
        refine WL_move rfl rfl ?_
        refine WL_move rfl rfl ?_
        refine WL_len Try.underlying26 g1 rfl rfl ?_
        refine WL_lss rfl rfl rfl ?_
        refine WL_nil ?_
        refine W_cond rfl (fun hc2 => ?_) (fun hc2 => ?_)
        · replace hL1 := ite_t hL1 hc2
          refine W_skip ?_
          refine nrm_normal ?_
          refine W_seq ?_
          refine W_block ?_
          refine W_seq_reg ?_
          refine WL_move rfl rfl ?_
          refine WL_move rfl rfl ?_
          obtain ⟨x4, hx1, hL1⟩ := bind_some hL1
          refine WL_index Try.underlying26 ty67 g1 hx1 rfl rfl rfl (fun b1 o1 h1 => ?_)
          refine WL_load ty67 h1 hC1.keep rfl rfl (fun v1 h2 => ?_)
          obtain ⟨v2, rfl, h3⟩ := ro_st67 h2
          refine WL_move rfl rfl ?_
          obtain ⟨x5, hr2, hL1⟩ := bind_some hL1
          refine WL_call Try.call89 rfl rfl (c_Q_szFact x4 v2 (h3.now hC1.keep) x1 x5 hr2) ?_
          intro _ w2 hv1
          obtain ⟨rfl, hB2⟩ := res_int hv1
          have hC2 := hC1.grow hB2
          refine WL_assign rfl rfl ?_
          refine WL_nil ?_
          refine W_seq_reg ?_
          refine WL_move rfl rfl ?_
          refine WL_lss rfl rfl rfl ?_
          refine WL_nil ?_
          refine W_cond rfl (fun hc3 => ?_) (fun hc3 => ?_)
          · replace hL1 := ite_t hL1 hc3
            refine W_seq_reg ?_
            refine WL_assign rfl rfl ?_
            refine WL_nil ?_
            refine W_ret ?_
            refine blk_ret ?_
            refine nrm_ret ?_
            refine nrm_ret ?_
            refine blk_ret ?_
            refine nrm_ret ?_
            refine nrm_ret ?_
            have hq2 := Option.some.inj hL1
            subst hq2
            dsimp only at hF
            have hq3 := Option.some.inj hF
            subst hq3
            refine fn_ret1 rfl rfl ?_
            exact ⟨_, rfl, int_res hC2 _⟩
          · replace hL1 := ite_f hL1 hc3
            refine W_skip ?_
            refine blk_normal ?_
            refine nrm_normal ?_
            refine W_reg ?_
            refine WL_move rfl rfl ?_
            refine WL_add rfl rfl rfl ?_
            refine WL_assign rfl rfl ?_
            refine WL_nil ?_
            refine nrm_sub (l' := [(0, u1), (1, (.int .i64 x5)), (5, (.int .i64 (w64 (x2 + 1))))]) ⟨rfl, rfl, rfl, trivial⟩ ?_
            exact ⟨k1, Nat.lt_succ_self _, x5, w64 (x2 + 1), rfl, ((Keep.of hB1).then hB2).below, hC2, hL1⟩
        · replace hL1 := ite_f hL1 hc2
          refine W_exit ?_
          refine nrm_exit ?_
          refine nrm_exit ?_
          refine blk_exit ?_
          have hq4 := Option.some.inj hL1
          subst hq4
          refine nrm_sub (l' := [(1, (.int .i64 x1))]) ⟨rfl, trivial⟩ ?_
          exact ⟨x1, rfl, rfl, (Keep.of hB1).below, hC1⟩
    · rintro l2 _ w3 hs2 ⟨x3, rfl, rfl, hB3, hC3⟩
      try dsimp only at hF
      refine nrm_sub' hs2 ?_
      clear hs2
      refine W_seq_reg ?_
      refine WL_move rfl rfl ?_
      refine WL_assign rfl rfl ?_
      refine WL_nil ?_
      refine W_ret ?_
      have hq5 := Option.some.inj hF
      subst hq5
      refine fn_ret1 rfl rfl ?_
      exact ⟨_, rfl, int_res hC3 _⟩

theorem c_Q_szAccess {w0 : World} (a1 : (Int × (List Int))) (u1 : Value) (g1 : RO [] w0 u1 a1.2) (a2 : Int) (rr : Int) (hF : Q.szAccess a1 a2 = some rr) :
    Calls Try.prog 59 [(.agg #[(.int .i64 a1.1), u1]), (.int .i64 a2)].toArray w0 fun e w' => ∃ v, e = .returned v ∧ Res w0 rr v w' := by
  refine calls_of_W Try.func59 rfl rfl ?_
  have hC0 := Ctx.start w0
  unfold Q.szAccess at hF
  refine W_seq_reg ?_
  refine WL_box (cs := [(.int .i64 a1.1), u1]) hC0 rfl rfl rfl (fun b1 w1 hC1 hB1 => ?_)
  refine WL_assign rfl rfl ?_
  refine WL_nil ?_
  refine W_seq_reg ?_
  refine WL_field Try.underlying25 rfl rfl (fun w => ⟨_, Try.sizeOf22 w⟩) rfl rfl ?_
  refine WL_load_box hC1 0 rfl rfl Try.isAgg22 rfl rfl ?_
  refine WL_move rfl rfl ?_
  obtain ⟨x1, hr1, hF⟩ := bind_some hF
  refine WL_call Try.call111 rfl rfl (c_Q_szIntS a1.2 u1 (g1.now hC1.keep) a2 x1 hr1) ?_
  intro _ w2 hv1
  obtain ⟨rfl, hB2⟩ := res_int hv1
  have hC2 := hC1.grow hB2
  refine WL_assign rfl rfl ?_
  refine WL_nil ?_
  refine W_seq ?_
  refine W_seq_reg ?_
  refine WL_move rfl rfl ?_
  refine WL_lss rfl rfl rfl ?_
  refine WL_nil ?_
  refine W_cond rfl (fun hc1 => ?_) (fun hc1 => ?_)
  · replace hF := ite_t hF hc1
    refine W_seq_reg ?_
    refine WL_assign rfl rfl ?_
    refine WL_nil ?_
    refine W_ret ?_
    refine nrm_ret ?_
    have hq1 := Option.some.inj hF
    subst hq1
    refine fn_ret1 rfl rfl ?_
    exact ⟨_, rfl, int_res hC2 _⟩
  · replace hF := ite_f hF hc1
    refine W_skip ?_
    refine nrm_normal ?_
    refine W_seq_reg ?_
    refine WL_move rfl rfl ?_
    refine WL_assign rfl rfl ?_
    refine WL_nil ?_
    refine W_ret ?_
    have hq2 := Option.some.inj hF
    subst hq2
    refine fn_ret1 rfl rfl ?_
    exact ⟨_, rfl, int_res hC2 _⟩

theorem c_Q_szTold {w0 : World} (a1 : ((Int × (List Int)) × (List (Int × (List Int))))) (u1 : Value) (g1 : RO [] w0 u1 a1.1.2) (u2 : Value) (g2 : RO [] w0 u2 a1.2) (a2 : Int) (rr : Int) (hF : Q.szTold a1 a2 = some rr) :
    Calls Try.prog 13 [(.agg #[(.int .i64 a1.1.1), u1, u2]), (.int .i64 a2)].toArray w0 fun e w' => ∃ v, e = .returned v ∧ Res w0 rr v w' := by
  refine calls_of_W Try.func13 rfl rfl ?_
  have hC0 := Ctx.start w0
  unfold Q.szTold at hF
  refine W_seq_reg ?_
  refine WL_box (cs := [(.int .i64 a1.1.1), u1, u2]) hC0 rfl rfl rfl (fun b1 w1 hC1 hB1 => ?_)
  refine WL_assign rfl rfl ?_
  refine WL_nil ?_
  refine W_seq_reg ?_
  refine WL_field Try.underlying28 rfl rfl (fun w => ⟨_, Try.sizeOf25 w⟩) rfl rfl ?_
  refine WL_load_box_agg [(.int .i64 a1.1.1), u1] hC1 0 rfl rfl rfl Try.isAgg25 Try.sizeOf25 rfl rfl ?_
  refine WL_move rfl rfl ?_
  obtain ⟨x1, hr1, hF⟩ := bind_some hF
  refine WL_call Try.call59 rfl rfl (c_Q_szAccess (a1.1.1, a1.1.2) u1 (g1.now hC1.keep) a2 x1 hr1) ?_
  intro _ w2 hv1
  obtain ⟨rfl, hB2⟩ := res_int hv1
  have hC2 := hC1.grow hB2
  refine WL_assign rfl rfl ?_
  refine WL_nil ?_
  refine W_seq ?_
  refine W_seq_reg ?_
  refine WL_move rfl rfl ?_
  refine WL_lss rfl rfl rfl ?_
  refine WL_nil ?_
  refine W_cond rfl (fun hc1 => ?_) (fun hc1 => ?_)
  · replace hF := ite_t hF hc1
    refine W_seq_reg ?_
    refine WL_assign rfl rfl ?_
    refine WL_nil ?_
    refine W_ret ?_
    refine nrm_ret ?_
    have hq1 := Option.some.inj hF
    subst hq1
    refine fn_ret1 rfl rfl ?_
    exact ⟨_, rfl, int_res hC2 _⟩
  · replace hF := ite_f hF hc1
    refine W_skip ?_
    refine nrm_normal ?_
    refine W_seq_reg ?_
    refine WL_field Try.underlying28 rfl rfl (fun w => ⟨_, Try.sizeOf26 w⟩) rfl rfl ?_
    refine WL_load_box hC2 0 rfl rfl Try.isAgg26 rfl rfl ?_
    refine WL_move rfl rfl ?_
    obtain ⟨x2, hr2, hF⟩ := bind_some hF
    refine WL_call Try.call37 rfl rfl (c_Q_szFactS a1.2 u2 (g2.now hC2.keep) x1 x2 hr2) ?_
    intro _ w3 hv2
    obtain ⟨rfl, hB3⟩ := res_int hv2
    have hC3 := hC2.grow hB3
    refine WL_assign rfl rfl ?_
    refine WL_nil ?_
    refine W_seq ?_
    refine W_seq_reg ?_
    refine WL_move rfl rfl ?_
    refine WL_lss rfl rfl rfl ?_
    refine WL_nil ?_
    refine W_cond rfl (fun hc2 => ?_) (fun hc2 => ?_)
    · replace hF := ite_t hF hc2
      refine W_seq_reg ?_
      refine WL_assign rfl rfl ?_
      refine WL_nil ?_
      refine W_ret ?_
      refine nrm_ret ?_
      have hq2 := Option.some.inj hF
      subst hq2
      refine fn_ret1 rfl rfl ?_
      exact ⟨_, rfl, int_res hC3 _⟩
    · replace hF := ite_f hF hc2
      refine W_skip ?_
      refine nrm_normal ?_
      refine W_seq_reg ?_
      refine WL_move rfl rfl ?_
      refine WL_assign rfl rfl ?_
      refine WL_nil ?_
      refine W_ret ?_
      have hq3 := Option.some.inj hF
      subst hq3
      refine fn_ret1 rfl rfl ?_
      exact ⟨_, rfl, int_res hC3 _⟩

theorem c_Q_szToldS {w0 : World} (a1 : (List ((Int × (List Int)) × (List (Int × (List Int)))))) (u1 : Value) (g1 : RO [] w0 u1 a1) (a2 : Int) (rr : Int) (hF : Q.szToldS a1 a2 = some rr) :
    Calls Try.prog 22 [u1, (.int .i64 a2)].toArray w0 fun e w' => ∃ v, e = .returned v ∧ Res w0 rr v w' := by
  refine calls_of_W Try.func22 rfl rfl ?_
  have hC0 := Ctx.start w0
  unfold Q.szToldS at hF
  refine W_seq_reg ?_
  refine WL_assign rfl rfl ?_
  refine WL_nil ?_
  refine W_seq_reg ?_
  refine WL_move rfl rfl ?_
  refine WL_move rfl rfl ?_
  refine WL_len Try.underlying44 g1 rfl rfl ?_
  refine WL_sub rfl rfl rfl ?_
  refine WL_assign rfl rfl ?_
  refine WL_nil ?_
  refine W_seq ?_
  refine W_seq_reg ?_
  refine WL_move rfl rfl ?_
  refine WL_lss rfl rfl rfl ?_
  refine WL_nil ?_
  refine W_cond rfl (fun hc1 => ?_) (fun hc1 => ?_)
  · replace hF := ite_t hF hc1
    refine W_seq_reg ?_
    refine WL_assign rfl rfl ?_
    refine WL_nil ?_
    refine W_ret ?_
    refine nrm_ret ?_
    have hq1 := Option.some.inj hF
    subst hq1
    refine fn_ret1 rfl rfl ?_
    exact ⟨_, rfl, int_res hC0 _⟩
  · replace hF := ite_f hF hc1
    refine W_skip ?_
    refine nrm_normal ?_
    refine W_seq ?_
    refine W_seq_reg ?_
    refine WL_assign rfl rfl ?_
    refine WL_nil ?_
    obtain ⟨r1, hr1, hF⟩ := bind_some hF
    refine W_norm (fun l w => ∃ x3 : Int, .inl x3 = r1 ∧ l = [(1, (.int .i64 x3))] ∧ Below w0.heap.size w0 w ∧ Ctx [] w0 w []) ?_ ?_
    · refine W_block ?_
      refine W.sub (l' := [(0, u1), (1, (.int .i64 (w64 (a2 - (List.length a1 : Int))))), (5, (.int .i64 0))]) ?_ ⟨rfl, rfl, rfl, trivial⟩
      refine W_loop (fun k l w => ∃ x1 : Int, ∃ x2 : Int, l = [(0, u1), (1, (.int .i64 x1)), (5, (.int .i64 x2))] ∧ Below w0.heap.size w0 w ∧ Ctx [] w0 w [] ∧ Q.szToldS_l1 a1 k x1 x2 = some r1) FUEL ⟨w64 (a2 - (List.length a1 : Int)), 0, rfl, (Below.refl _ _), hC0, hr1⟩ ?_
      clear hr1
      rintro k1 _ w1 ⟨x1, x2, rfl, hB1, hC1, hL1⟩
      cases k1 with
      | zero => rw [Q.szToldS_l1] at hL1; cases hL1
      | succ k1 =>
        rw [Q.szToldS_l1] at hL1
        refine W_seq ?_
        refine W_seq_reg ?_
        refine WL_move rfl rfl ?_
        refine WL_move rfl rfl ?_
        refine WL_len Try.underlying44 g1 rfl rfl ?_
        refine WL_lss rfl rfl rfl ?_
        refine WL_nil ?_
        refine W_cond rfl (fun hc2 => ?_) (fun hc2 => ?_)
        · replace hL1 := ite_t hL1 hc2
          refine W_skip ?_
          refine nrm_normal ?_
          refine W_seq ?_
          refine W_block ?_
          refine W_seq_reg ?_
          refine WL_move rfl rfl ?_
          refine WL_move rfl rfl ?_
          obtain ⟨x4, hx1, hL1⟩ := bind_some hL1
          refine WL_index Try.underlying44 ty28 g1 hx1 rfl rfl rfl (fun b1 o1 h1 => ?_)
          refine WL_load ty28 h1 hC1.keep rfl rfl (fun v1 h2 => ?_)
          obtain ⟨v2, v3, rfl, h3, h4⟩ := ro_st28 h2
          refine WL_move rfl rfl ?_
          obtain ⟨x5, hr2, hL1⟩ := bind_some hL1
          refine WL_call Try.call13 rfl rfl (c_Q_szTold x4 v2 (h3.now hC1.keep) v3 (h4.now hC1.keep) x1 x5 hr2) ?_
          intro _ w2 hv1
          obtain ⟨rfl, hB2⟩ := res_int hv1
          have hC2 := hC1.grow hB2
          refine WL_assign rfl rfl ?_
          refine WL_nil ?_
          refine W_seq_reg ?_
          refine WL_move rfl rfl ?_
          refine WL_lss rfl rfl rfl ?_
          refine WL_nil ?_
          refine W_cond rfl (fun hc3 => ?_) (fun hc3 => ?_)
          · replace hL1 := ite_t hL1 hc3
            refine W_seq_reg ?_
            refine WL_assign rfl rfl ?_
            refine WL_nil ?_
            refine W_ret ?_
            refine blk_ret ?_
            refine nrm_ret ?_
            refine nrm_ret ?_
            refine blk_ret ?_
            refine nrm_ret ?_
            refine nrm_ret ?_
            have hq2 := Option.some.inj hL1
            subst hq2
            dsimp only at hF
            have hq3 := Option.some.inj hF
            subst hq3
            refine fn_ret1 rfl rfl ?_
            exact ⟨_, rfl, int_res hC2 _⟩
          · replace hL1 := ite_f hL1 hc3
            refine W_skip ?_
            refine blk_normal ?_
            refine nrm_normal ?_
            refine W_reg ?_
            refine WL_move rfl rfl ?_
            refine WL_add rfl rfl rfl ?_
            refine WL_assign rfl rfl ?_
            refine WL_nil ?_
            refine nrm_sub (l' := [(0, u1), (1, (.int .i64 x5)), (5, (.int .i64 (w64 (x2 + 1))))]) ⟨rfl, rfl, rfl, trivial⟩ ?_
            exact ⟨k1, Nat.lt_succ_self _, x5, w64 (x2 + 1), rfl, ((Keep.of hB1).then hB2).below, hC2, hL1⟩
        · replace hL1 := ite_f hL1 hc2
          refine W_exit ?_
          refine nrm_exit ?_
          refine nrm_exit ?_
          refine blk_exit ?_
          have hq4 := Option.some.inj hL1
          subst hq4
          refine nrm_sub (l' := [(1, (.int .i64 x1))]) ⟨rfl, trivial⟩ ?_
          exact ⟨x1, rfl, rfl, (Keep.of hB1).below, hC1⟩
    · rintro l2 _ w3 hs2 ⟨x3, rfl, rfl, hB3, hC3⟩
      try dsimp only at hF
      refine nrm_sub' hs2 ?_
      clear hs2
      refine W_seq_reg ?_
      refine WL_move rfl rfl ?_
      refine WL_assign rfl rfl ?_
      refine WL_nil ?_
      refine W_ret ?_
      have hq5 := Option.some.inj hF
      subst hq5
      refine fn_ret1 rfl rfl ?_
      exact ⟨_, rfl, int_res hC3 _⟩

theorem c_S_CompareFacts {w0 : World} (a1 : (Int × (List Int))) (u1 : Value) (g1 : RO [] w0 u1 a1.2) (a2 : (Int × (List Int))) (u2 : Value) (g2 : RO [] w0 u2 a2.2) (rr : Int) (hF : S.CompareFacts a1 a2 = some rr) :
    Calls Try.prog 101 [(.agg #[(.int .i64 a1.1), u1]), (.agg #[(.int .i64 a2.1), u2])].toArray w0 fun e w' => ∃ v, e = .returned v ∧ Res w0 rr v w' := by
  refine calls_of_W Try.func101 rfl rfl ?_
  have hC0 := Ctx.start w0
  unfold S.CompareFacts at hF
  refine W_seq_reg ?_
  refine WL_box (cs := [(.int .i64 a1.1), u1]) hC0 rfl rfl rfl (fun b1 w1 hC1 hB1 => ?_)
  refine WL_box (cs := [(.int .i64 a2.1), u2]) hC1 rfl rfl rfl (fun b2 w2 hC2 hB2 => ?_)
  refine WL_assign rfl rfl ?_
  refine WL_nil ?_
  refine W_seq ?_
  refine W_seq_reg ?_
  refine WL_field Try.underlying77 rfl rfl (fun w => ⟨_, Try.sizeOf3 w⟩) rfl rfl ?_
  refine WL_load_box hC2 1 rfl rfl Try.isAgg3 rfl rfl ?_
  refine WL_field Try.underlying77 rfl rfl (fun w => ⟨_, Try.sizeOf3 w⟩) rfl rfl ?_
  refine WL_load_box hC2 0 rfl rfl Try.isAgg3 rfl rfl ?_
  refine WL_neq rfl rfl rfl ?_
  refine WL_nil ?_
  refine W_cond rfl (fun hc1 => ?_) (fun hc1 => ?_)
  · replace hF := ite_t hF hc1
    refine W_seq ?_
    refine W_seq_reg ?_
    refine WL_field Try.underlying77 rfl rfl (fun w => ⟨_, Try.sizeOf3 w⟩) rfl rfl ?_
    refine WL_load_box hC2 1 rfl rfl Try.isAgg3 rfl rfl ?_
    refine WL_field Try.underlying77 rfl rfl (fun w => ⟨_, Try.sizeOf3 w⟩) rfl rfl ?_
    refine WL_load_box hC2 0 rfl rfl Try.isAgg3 rfl rfl ?_
    refine WL_lss rfl rfl rfl ?_
    refine WL_nil ?_
    refine W_cond rfl (fun hc2 => ?_) (fun hc2 => ?_)
    · replace hF := ite_t hF hc2
      refine W_seq_reg ?_
      refine WL_assign rfl rfl ?_
      refine WL_nil ?_
      refine W_ret ?_
      refine nrm_ret ?_
      refine nrm_ret ?_
      have hq1 := Option.some.inj hF
      subst hq1
      refine fn_ret1 rfl rfl ?_
      exact ⟨_, rfl, int_res hC2 _⟩
    · replace hF := ite_f hF hc2
      refine W_skip ?_
      refine nrm_normal ?_
      refine W_seq_reg ?_
      refine WL_assign rfl rfl ?_
      refine WL_nil ?_
      refine W_ret ?_
      refine nrm_ret ?_
      have hq2 := Option.some.inj hF
      subst hq2
      refine fn_ret1 rfl rfl ?_
      exact ⟨_, rfl, int_res hC2 _⟩
  · replace hF := ite_f hF hc1
    refine W_skip ?_
    refine nrm_normal ?_
    refine W_seq ?_
    refine W_seq_reg ?_
    refine WL_assign rfl rfl ?_
    refine WL_nil ?_
    obtain ⟨r1, hr1, hF⟩ := bind_some hF
    refine W_norm (fun l w => .inl () = r1 ∧ l = [(2, (ptr b1 0)), (3, (ptr b2 0))] ∧ Below w2.heap.size w2 w ∧ Ctx [] w0 w [Item.box b2 [(.int .i64 a2.1), u2], Item.box b1 [(.int .i64 a1.1), u1]]) ?_ ?_
    · refine W_block ?_
      refine W.sub (l' := [(2, (ptr b1 0)), (3, (ptr b2 0)), (5, (.int .i64 0))]) ?_ ⟨rfl, rfl, rfl, trivial⟩
      refine W_loop (fun k l w => ∃ x1 : Int, l = [(2, (ptr b1 0)), (3, (ptr b2 0)), (5, (.int .i64 x1))] ∧ Below w2.heap.size w2 w ∧ Ctx [] w0 w [Item.box b2 [(.int .i64 a2.1), u2], Item.box b1 [(.int .i64 a1.1), u1]] ∧ S.CompareFacts_l1 a1 a2 k x1 = some r1) FUEL ⟨0, rfl, (Below.refl _ _), hC2, hr1⟩ ?_
      clear hr1
      rintro k1 _ w3 ⟨x1, rfl, hB3, hC3, hL1⟩
      cases k1 with
      | zero => rw [S.CompareFacts_l1] at hL1; cases hL1
      | succ k1 =>
        rw [S.CompareFacts_l1] at hL1
        refine W_seq ?_
        obtain ⟨r2, hr2, hL1⟩ := bind_some hL1
        refine W_cut (fun l w => ∃ x2 : Bool, x2 = r2 ∧ l = [(2, (ptr b1 0)), (3, (ptr b2 0)), (5, (.int .i64 x1)), (27, (.bool x2))] ∧ Below w3.heap.size w3 w ∧ Ctx [] w0 w [Item.box b2 [(.int .i64 a2.1), u2], Item.box b1 [(.int .i64 a1.1), u1]]) ?_ ?_
        · refine W_reg ?_
          refine WL_move rfl rfl ?_
          refine WL_field Try.underlying77 rfl rfl (fun w => ⟨_, Try.sizeOf22 w⟩) rfl rfl ?_
          refine WL_load_box hC3 1 rfl rfl Try.isAgg22 rfl rfl ?_
          refine WL_len Try.underlying22 g1 rfl rfl ?_
          refine WL_lss rfl rfl rfl ?_
          refine WL_move rfl rfl ?_
          refine WL_fork (fun hc3 => ?_) (fun hc3 => ?_)
          · replace hr2 := ite_t hr2 hc3
            refine WL_guard rfl rfl ?_
            refine WL_move rfl rfl ?_
            refine WL_guard rfl rfl ?_
            refine WL_field Try.underlying77 rfl rfl (fun w => ⟨_, Try.sizeOf22 w⟩) rfl rfl ?_
            refine WL_guard rfl rfl ?_
            refine WL_load_box hC3 0 rfl rfl Try.isAgg22 rfl rfl ?_
            refine WL_guard rfl rfl ?_
            refine WL_len Try.underlying22 g2 rfl rfl ?_
            refine WL_guard rfl rfl ?_
            refine WL_lss rfl rfl rfl ?_
            refine WL_pick_t rfl rfl rfl ?_
            refine WL_nil ?_
            have hq3 := Option.some.inj hr2
            subst hq3
            refine nrm_sub (l' := [(2, (ptr b1 0)), (3, (ptr b2 0)), (5, (.int .i64 x1)), (27, (.bool (decide (x1 < (List.length a2.2 : Int)))))]) ⟨rfl, rfl, rfl, rfl, trivial⟩ ?_
            exact ⟨(decide (x1 < (List.length a2.2 : Int))), rfl, rfl, (Below.refl _ _), hC3⟩
          · replace hr2 := ite_f hr2 hc3
            refine WL_guard_skip rfl rfl (by simp) rfl ?_
            refine WL_guard_skip rfl rfl (by simp) rfl ?_
            refine WL_guard_skip rfl rfl (by simp) rfl ?_
            refine WL_guard_skip rfl rfl (by simp) rfl ?_
            refine WL_guard_skip rfl rfl (by simp) rfl ?_
            refine WL_pick_f rfl rfl rfl ?_
            refine WL_nil ?_
            have hq4 := Option.some.inj hr2
            subst hq4
            refine nrm_sub (l' := [(2, (ptr b1 0)), (3, (ptr b2 0)), (5, (.int .i64 x1)), (27, (.bool false))]) ⟨rfl, rfl, rfl, rfl, trivial⟩ ?_
            exact ⟨false, rfl, rfl, (Below.refl _ _), hC3⟩
        · rintro _ w4 ⟨x2, rfl, rfl, hB4, hC4⟩
          try dsimp only at hL1
          refine W_cond rfl (fun hc4 => ?_) (fun hc4 => ?_)
          · replace hL1 := ite_t hL1 hc4
            refine W_skip ?_
            refine nrm_normal ?_
            refine W_seq ?_
            refine W_block ?_
            refine W_seq ?_
            refine W_seq ?_
            refine W_drawn 11 rfl hmix (fun w5 hB5 => ?_)
            have hC5 := hC4.grow hB5
            refine WA_take 0 rfl (by kernel_rfl) (by kernel_rfl) (by kernel_rfl) rfl (fl_field Try.underlying77 rfl rfl (fun w => ⟨_, Try.sizeOf22 w⟩) rfl) ?_
            refine WL_field Try.underlying77 rfl rfl (fun w => ⟨_, Try.sizeOf22 w⟩) rfl rfl ?_
            refine WL_nil ?_
            refine WA_take 2 rfl (by kernel_rfl) (by kernel_rfl) (by kernel_rfl) rfl (fl_move rfl) ?_
            refine WL_move rfl rfl ?_
            refine WL_nil ?_
            refine WA_take 5 rfl (by kernel_rfl) (by kernel_rfl) (by kernel_rfl) rfl (fl_field Try.underlying77 rfl rfl (fun w => ⟨_, Try.sizeOf22 w⟩) rfl) ?_
            refine WL_field Try.underlying77 rfl rfl (fun w => ⟨_, Try.sizeOf22 w⟩) rfl rfl ?_
            refine WL_nil ?_
            refine WA_take 7 rfl (by kernel_rfl) (by kernel_rfl) (by kernel_rfl) rfl (fl_move rfl) ?_
            refine WL_move rfl rfl ?_
            refine WL_nil ?_
            obtain ⟨x3, hx1, hL1⟩ := bind_some hL1
            obtain ⟨x4, hx2, hL1⟩ := bind_some hL1
            refine WA.sub (l' := [(2, (ptr b1 0)), (3, (ptr b2 0)), (5, (.int .i64 x1)), (27, (.bool x2)), (30, (ptr b1 1)), (32, (.int .i64 x1)), (35, (ptr b2 1)), (37, (.int .i64 x1))]) ?_ ⟨rfl, rfl, rfl, rfl, rfl, rfl, rfl, rfl, trivial⟩
            refine WA_postsE [⟨1, [], fun vs => PW.val u1, []⟩, ⟨3, [], fun vs => PW.at [] w0 x3, []⟩, ⟨4, [], fun vs => PW.val (.int .i64 x3), []⟩, ⟨6, [], fun vs => PW.val u2, []⟩, ⟨8, [], fun vs => PW.at [] w0 x4, []⟩, ⟨9, [], fun vs => PW.val (.int .i64 x4), []⟩] [[], [1], [3], [], [6], [8]] 1 rfl (by kernel_rfl) (by kernel_rfl) rfl ?_ ?_
            · refine StepsE_cons rfl ?_ ?_
              · intro w6 hB6
                refine DepsE_nil ?_
                refine ⟨_, rfl, ?_⟩
                refine WL_load_box (hC5.grow hB6) 1 rfl rfl Try.isAgg22 rfl rfl ?_
                refine WL_nil ?_
                exact FinE_val (Below.refl _ _) rfl rfl ⟨rfl, rfl⟩
              refine StepsE_cons rfl ?_ ?_
              · intro w6 hB6
                refine DepsE_cons rfl rfl rfl ?_
                rintro _ _ ⟨rfl, rfl⟩ _
                refine DepsE_nil ?_
                refine ⟨_, rfl, ?_⟩
                refine WL_index Try.underlying22 ty3 g1 hx1 rfl rfl rfl (fun b3 o1 h1 => ?_)
                refine WL_nil ?_
                exact FinE_val (Below.refl _ _) rfl rfl ⟨rfl, _, _, rfl, h1⟩
              refine StepsE_cons rfl ?_ ?_
              · intro w6 hB6
                refine DepsE_cons rfl rfl rfl ?_
                rintro _ _ ⟨rfl, b3, o1, rfl, h1⟩ _
                refine DepsE_nil ?_
                refine ⟨_, rfl, ?_⟩
                refine WL_load ty3 h1 (hC5.keep.then hB6) rfl rfl (fun v1 h2 => ?_)
                obtain rfl := ro_int h2
                refine WL_nil ?_
                exact FinE_val (Below.refl _ _) rfl rfl ⟨rfl, rfl⟩
              refine StepsE_cons rfl ?_ ?_
              · intro w6 hB6
                refine DepsE_nil ?_
                refine ⟨_, rfl, ?_⟩
                refine WL_load_box (hC5.grow hB6) 0 rfl rfl Try.isAgg22 rfl rfl ?_
                refine WL_nil ?_
                exact FinE_val (Below.refl _ _) rfl rfl ⟨rfl, rfl⟩
              refine StepsE_cons rfl ?_ ?_
              · intro w6 hB6
                refine DepsE_cons rfl rfl rfl ?_
                rintro _ _ ⟨rfl, rfl⟩ _
                refine DepsE_nil ?_
                refine ⟨_, rfl, ?_⟩
                refine WL_index Try.underlying22 ty3 g2 hx2 rfl rfl rfl (fun b4 o2 h3 => ?_)
                refine WL_nil ?_
                exact FinE_val (Below.refl _ _) rfl rfl ⟨rfl, _, _, rfl, h3⟩
              refine StepsE_cons rfl ?_ ?_
              · intro w6 hB6
                refine DepsE_cons rfl rfl rfl ?_
                rintro _ _ ⟨rfl, b4, o2, rfl, h3⟩ _
                refine DepsE_nil ?_
                refine ⟨_, rfl, ?_⟩
                refine WL_load ty3 h3 (hC5.keep.then hB6) rfl rfl (fun v2 h4 => ?_)
                obtain rfl := ro_int h4
                refine WL_nil ?_
                exact FinE_val (Below.refl _ _) rfl rfl ⟨rfl, rfl⟩
              exact StepsE_nil
            · intro w7 hB7
              refine AllE_cons rfl rfl rfl ?_
              rintro _ _ ⟨rfl, rfl⟩
              refine AllE_cons rfl rfl rfl ?_
              rintro _ _ ⟨rfl, b3, o1, rfl, h1⟩
              refine AllE_cons rfl rfl rfl ?_
              rintro _ _ ⟨rfl, rfl⟩
              refine AllE_cons rfl rfl rfl ?_
              rintro _ _ ⟨rfl, rfl⟩
              refine AllE_cons rfl rfl rfl ?_
              rintro _ _ ⟨rfl, b4, o2, rfl, h3⟩
              refine AllE_cons rfl rfl rfl ?_
              rintro _ _ ⟨rfl, rfl⟩
              refine AllE_nil ?_
              intro hn1 hb1
              have hC6 := hC5.grow hB7
              refine WA_take 10 rfl (by kernel_rfl) (by kernel_rfl) (by kernel_rfl) rfl (fl_lss rfl rfl) ?_
              refine WL_lss rfl rfl rfl ?_
              refine WL_nil ?_
              refine WA_done (by kernel_rfl) ?_
              refine nrm_normal ?_
              refine W_cond rfl (fun hc5 => ?_) (fun hc5 => ?_)
              · replace hL1 := ite_t hL1 hc5
                refine W_seq_reg ?_
                refine WL_assign rfl rfl ?_
                refine WL_nil ?_
                refine W_ret ?_
                refine nrm_ret ?_
                refine blk_ret ?_
                refine nrm_ret ?_
                refine nrm_ret ?_
                refine blk_ret ?_
                refine nrm_ret ?_
                refine nrm_ret ?_
                have hq5 := Option.some.inj hL1
                subst hq5
                dsimp only at hF
                have hq6 := Option.some.inj hF
                subst hq6
                refine fn_ret1 rfl rfl ?_
                exact ⟨_, rfl, int_res hC6 _⟩
              · replace hL1 := ite_f hL1 hc5
                refine W_skip ?_
                refine nrm_normal ?_
                refine W_seq ?_
                refine W_drawn 11 rfl hmix (fun w8 hB8 => ?_)
                have hC7 := hC6.grow hB8
                refine WA_take 0 rfl (by kernel_rfl) (by kernel_rfl) (by kernel_rfl) rfl (fl_field Try.underlying77 rfl rfl (fun w => ⟨_, Try.sizeOf22 w⟩) rfl) ?_
                refine WL_field Try.underlying77 rfl rfl (fun w => ⟨_, Try.sizeOf22 w⟩) rfl rfl ?_
                refine WL_nil ?_
                refine WA_take 2 rfl (by kernel_rfl) (by kernel_rfl) (by kernel_rfl) rfl (fl_move rfl) ?_
                refine WL_move rfl rfl ?_
                refine WL_nil ?_
                refine WA_take 5 rfl (by kernel_rfl) (by kernel_rfl) (by kernel_rfl) rfl (fl_field Try.underlying77 rfl rfl (fun w => ⟨_, Try.sizeOf22 w⟩) rfl) ?_
                refine WL_field Try.underlying77 rfl rfl (fun w => ⟨_, Try.sizeOf22 w⟩) rfl rfl ?_
                refine WL_nil ?_
                refine WA_take 7 rfl (by kernel_rfl) (by kernel_rfl) (by kernel_rfl) rfl (fl_move rfl) ?_
                refine WL_move rfl rfl ?_
                refine WL_nil ?_
                obtain ⟨x5, hx3, hL1⟩ := bind_some hL1
                obtain ⟨x6, hx4, hL1⟩ := bind_some hL1
                refine WA.sub (l' := [(2, (ptr b1 0)), (3, (ptr b2 0)), (5, (.int .i64 x1)), (27, (.bool x2)), (30, (ptr b1 1)), (31, u1), (32, (.int .i64 x1)), (33, (ptr b3 o1)), (34, (.int .i64 x3)), (35, (ptr b2 1)), (36, u2), (37, (.int .i64 x1)), (38, (ptr b4 o2)), (39, (.int .i64 x4)), (40, (.bool (decide (x3 < x4)))), (41, (ptr b1 1)), (43, (.int .i64 x1)), (46, (ptr b2 1)), (48, (.int .i64 x1))]) ?_ ⟨rfl, rfl, rfl, rfl, rfl, rfl, rfl, rfl, rfl, rfl, rfl, rfl, rfl, rfl, rfl, rfl, rfl, rfl, rfl, trivial⟩
                refine WA_postsE [⟨1, [], fun vs => PW.val u1, []⟩, ⟨3, [], fun vs => PW.at [] w0 x5, []⟩, ⟨4, [], fun vs => PW.val (.int .i64 x5), []⟩, ⟨6, [], fun vs => PW.val u2, []⟩, ⟨8, [], fun vs => PW.at [] w0 x6, []⟩, ⟨9, [], fun vs => PW.val (.int .i64 x6), []⟩] [[], [1], [3], [], [6], [8]] 1 rfl (by kernel_rfl) (by kernel_rfl) rfl ?_ ?_
                · refine StepsE_cons rfl ?_ ?_
                  · intro w9 hB9
                    refine DepsE_nil ?_
                    refine ⟨_, rfl, ?_⟩
                    refine WL_load_box (hC7.grow hB9) 1 rfl rfl Try.isAgg22 rfl rfl ?_
                    refine WL_nil ?_
                    exact FinE_val (Below.refl _ _) rfl rfl ⟨rfl, rfl⟩
                  refine StepsE_cons rfl ?_ ?_
                  · intro w9 hB9
                    refine DepsE_cons rfl rfl rfl ?_
                    rintro _ _ ⟨rfl, rfl⟩ _
                    refine DepsE_nil ?_
                    refine ⟨_, rfl, ?_⟩
                    refine WL_index Try.underlying22 ty3 g1 hx3 rfl rfl rfl (fun b5 o3 h5 => ?_)
                    refine WL_nil ?_
                    exact FinE_val (Below.refl _ _) rfl rfl ⟨rfl, _, _, rfl, h5⟩
                  refine StepsE_cons rfl ?_ ?_
                  · intro w9 hB9
                    refine DepsE_cons rfl rfl rfl ?_
                    rintro _ _ ⟨rfl, b5, o3, rfl, h5⟩ _
                    refine DepsE_nil ?_
                    refine ⟨_, rfl, ?_⟩
                    refine WL_load ty3 h5 (hC7.keep.then hB9) rfl rfl (fun v3 h6 => ?_)
                    obtain rfl := ro_int h6
                    refine WL_nil ?_
                    exact FinE_val (Below.refl _ _) rfl rfl ⟨rfl, rfl⟩
                  refine StepsE_cons rfl ?_ ?_
                  · intro w9 hB9
                    refine DepsE_nil ?_
                    refine ⟨_, rfl, ?_⟩
                    refine WL_load_box (hC7.grow hB9) 0 rfl rfl Try.isAgg22 rfl rfl ?_
                    refine WL_nil ?_
                    exact FinE_val (Below.refl _ _) rfl rfl ⟨rfl, rfl⟩
                  refine StepsE_cons rfl ?_ ?_
                  · intro w9 hB9
                    refine DepsE_cons rfl rfl rfl ?_
                    rintro _ _ ⟨rfl, rfl⟩ _
                    refine DepsE_nil ?_
                    refine ⟨_, rfl, ?_⟩
                    refine WL_index Try.underlying22 ty3 g2 hx4 rfl rfl rfl (fun b6 o4 h7 => ?_)
                    refine WL_nil ?_
                    exact FinE_val (Below.refl _ _) rfl rfl ⟨rfl, _, _, rfl, h7⟩
                  refine StepsE_cons rfl ?_ ?_
                  · intro w9 hB9
                    refine DepsE_cons rfl rfl rfl ?_
                    rintro _ _ ⟨rfl, b6, o4, rfl, h7⟩ _
                    refine DepsE_nil ?_
                    refine ⟨_, rfl, ?_⟩
                    refine WL_load ty3 h7 (hC7.keep.then hB9) rfl rfl (fun v4 h8 => ?_)
                    obtain rfl := ro_int h8
                    refine WL_nil ?_
                    exact FinE_val (Below.refl _ _) rfl rfl ⟨rfl, rfl⟩
                  exact StepsE_nil
                · intro w10 hB10
                  refine AllE_cons rfl rfl rfl ?_
                  rintro _ _ ⟨rfl, rfl⟩
                  refine AllE_cons rfl rfl rfl ?_
                  rintro _ _ ⟨rfl, b5, o3, rfl, h5⟩
                  refine AllE_cons rfl rfl rfl ?_
                  rintro _ _ ⟨rfl, rfl⟩
                  refine AllE_cons rfl rfl rfl ?_
                  rintro _ _ ⟨rfl, rfl⟩
                  refine AllE_cons rfl rfl rfl ?_
                  rintro _ _ ⟨rfl, b6, o4, rfl, h7⟩
                  refine AllE_cons rfl rfl rfl ?_
                  rintro _ _ ⟨rfl, rfl⟩
                  refine AllE_nil ?_
                  intro hn2 hb2
                  have hC8 := hC7.grow hB10
                  refine WA_take 10 rfl (by kernel_rfl) (by kernel_rfl) (by kernel_rfl) rfl (fl_gtr rfl rfl) ?_
                  refine WL_gtr rfl rfl rfl ?_
                  refine WL_nil ?_
                  refine WA_done (by kernel_rfl) ?_
                  refine nrm_normal ?_
                  refine W_cond rfl (fun hc6 => ?_) (fun hc6 => ?_)
                  · replace hL1 := ite_t hL1 hc6
                    refine W_seq_reg ?_
                    refine WL_assign rfl rfl ?_
                    refine WL_nil ?_
                    refine W_ret ?_
                    refine blk_ret ?_
                    refine nrm_ret ?_
                    refine nrm_ret ?_
                    refine blk_ret ?_
                    refine nrm_ret ?_
                    refine nrm_ret ?_
                    have hq7 := Option.some.inj hL1
                    subst hq7
                    dsimp only at hF
                    have hq8 := Option.some.inj hF
                    subst hq8
                    refine fn_ret1 rfl rfl ?_
                    exact ⟨_, rfl, int_res hC8 _⟩
                  · replace hL1 := ite_f hL1 hc6
                    refine W_skip ?_
                    refine blk_normal ?_
                    refine nrm_normal ?_
                    refine W_reg ?_
                    refine WL_move rfl rfl ?_
                    refine WL_add rfl rfl rfl ?_
                    refine WL_assign rfl rfl ?_
                    refine WL_nil ?_
                    refine nrm_sub (l' := [(2, (ptr b1 0)), (3, (ptr b2 0)), (5, (.int .i64 (w64 (x1 + 1))))]) ⟨rfl, rfl, rfl, trivial⟩ ?_
                    exact ⟨k1, Nat.lt_succ_self _, w64 (x1 + 1), rfl, ((((((Keep.of hB3).then hB4).then hB5).then hB7).then hB8).then hB10).below, hC8, hL1⟩
          · replace hL1 := ite_f hL1 hc4
            refine W_exit ?_
            refine nrm_exit ?_
            refine nrm_exit ?_
            refine blk_exit ?_
            have hq9 := Option.some.inj hL1
            subst hq9
            refine nrm_sub (l' := [(2, (ptr b1 0)), (3, (ptr b2 0))]) ⟨rfl, rfl, trivial⟩ ?_
            exact ⟨rfl, rfl, ((Keep.of hB3).then hB4).below, hC4⟩
    · rintro l3 _ w11 hs3 ⟨rfl, rfl, hB11, hC9⟩
      try dsimp only at hF
      refine nrm_sub' hs3 ?_
      clear hs3
      refine W_seq ?_
      refine W_seq_reg ?_
      refine WL_field Try.underlying77 rfl rfl (fun w => ⟨_, Try.sizeOf22 w⟩) rfl rfl ?_
      refine WL_load_box hC9 1 rfl rfl Try.isAgg22 rfl rfl ?_
      refine WL_len Try.underlying22 g1 rfl rfl ?_
      refine WL_field Try.underlying77 rfl rfl (fun w => ⟨_, Try.sizeOf22 w⟩) rfl rfl ?_
      refine WL_load_box hC9 0 rfl rfl Try.isAgg22 rfl rfl ?_
      refine WL_len Try.underlying22 g2 rfl rfl ?_
      refine WL_lss rfl rfl rfl ?_
      refine WL_nil ?_
      refine W_cond rfl (fun hc7 => ?_) (fun hc7 => ?_)
      · replace hF := ite_t hF hc7
        refine W_seq_reg ?_
        refine WL_assign rfl rfl ?_
        refine WL_nil ?_
        refine W_ret ?_
        refine nrm_ret ?_
        have hq10 := Option.some.inj hF
        subst hq10
        refine fn_ret1 rfl rfl ?_
        exact ⟨_, rfl, int_res hC9 _⟩
      · replace hF := ite_f hF hc7
        refine W_skip ?_
        refine nrm_normal ?_
        refine W_seq ?_
        refine W_seq_reg ?_
        refine WL_field Try.underlying77 rfl rfl (fun w => ⟨_, Try.sizeOf22 w⟩) rfl rfl ?_
        refine WL_load_box hC9 1 rfl rfl Try.isAgg22 rfl rfl ?_
        refine WL_len Try.underlying22 g1 rfl rfl ?_
        refine WL_field Try.underlying77 rfl rfl (fun w => ⟨_, Try.sizeOf22 w⟩) rfl rfl ?_
        refine WL_load_box hC9 0 rfl rfl Try.isAgg22 rfl rfl ?_
        refine WL_len Try.underlying22 g2 rfl rfl ?_
        refine WL_gtr rfl rfl rfl ?_
        refine WL_nil ?_
        refine W_cond rfl (fun hc8 => ?_) (fun hc8 => ?_)
        · replace hF := ite_t hF hc8
          refine W_seq_reg ?_
          refine WL_assign rfl rfl ?_
          refine WL_nil ?_
          refine W_ret ?_
          refine nrm_ret ?_
          have hq11 := Option.some.inj hF
          subst hq11
          refine fn_ret1 rfl rfl ?_
          exact ⟨_, rfl, int_res hC9 _⟩
        · replace hF := ite_f hF hc8
          refine W_skip ?_
          refine nrm_normal ?_
          refine W_seq_reg ?_
          refine WL_assign rfl rfl ?_
          refine WL_nil ?_
          refine W_ret ?_
          have hq12 := Option.some.inj hF
          subst hq12
          refine fn_ret1 rfl rfl ?_
          exact ⟨_, rfl, int_res hC9 _⟩

theorem c_S_HasFact {w0 : World} (a1 : (List (Int × (List Int)))) (u1 : Value) (g1 : RO [] w0 u1 a1) (a2 : (Int × (List Int))) (u2 : Value) (g2 : RO [] w0 u2 a2.2) (rr : Bool) (hF : S.HasFact a1 a2 = some rr) :
    Calls Try.prog 92 [u1, (.agg #[(.int .i64 a2.1), u2])].toArray w0 fun e w' => ∃ v, e = .returned v ∧ Res w0 rr v w' := by
  refine calls_of_W Try.func92 rfl rfl ?_
  have hC0 := Ctx.start w0
  unfold S.HasFact at hF
  refine W_seq_reg ?_
  refine WL_box (cs := [(.int .i64 a2.1), u2]) hC0 rfl rfl rfl (fun b1 w1 hC1 hB1 => ?_)
  refine WL_assign rfl rfl ?_
  refine WL_nil ?_
  refine W_seq ?_
  refine W_seq_reg ?_
  refine WL_assign rfl rfl ?_
  refine WL_nil ?_
  obtain ⟨r1, hr1, hF⟩ := bind_some hF
  refine W_norm (fun l w => .inl () = r1 ∧ l = [] ∧ Below w1.heap.size w1 w ∧ Ctx [] w0 w []) ?_ ?_
  · refine W_block ?_
    refine W.sub (l' := [(0, u1), (3, (ptr b1 0)), (5, (.int .i64 0))]) ?_ ⟨rfl, rfl, rfl, trivial⟩
    refine W_loop (fun k l w => ∃ x1 : Int, l = [(0, u1), (3, (ptr b1 0)), (5, (.int .i64 x1))] ∧ Below w1.heap.size w1 w ∧ Ctx [] w0 w [Item.box b1 [(.int .i64 a2.1), u2]] ∧ S.HasFact_l1 a1 a2 k x1 = some r1) FUEL ⟨0, rfl, (Below.refl _ _), hC1, hr1⟩ ?_
    clear hr1
    rintro k1 _ w2 ⟨x1, rfl, hB2, hC2, hL1⟩
    cases k1 with
    | zero => rw [S.HasFact_l1] at hL1; cases hL1
    | succ k1 =>
      rw [S.HasFact_l1] at hL1
      refine W_seq ?_
      refine W_seq_reg ?_
      refine WL_move rfl rfl ?_
      refine WL_move rfl rfl ?_
      refine WL_len Try.underlying36 g1 rfl rfl ?_
      refine WL_lss rfl rfl rfl ?_
      refine WL_nil ?_
      refine W_cond rfl (fun hc1 => ?_) (fun hc1 => ?_)
      · replace hL1 := ite_t hL1 hc1
        refine W_skip ?_
        refine nrm_normal ?_
        refine W_seq ?_
        refine W_block ?_
        refine W_seq ?_
        refine W_drawn 7 rfl hmix (fun w3 hB3 => ?_)
        have hC3 := hC2.grow hB3
        refine WA_take 0 rfl (by kernel_rfl) (by kernel_rfl) (by kernel_rfl) rfl (fl_move rfl) ?_
        refine WL_move rfl rfl ?_
        refine WL_nil ?_
        refine WA_take 1 rfl (by kernel_rfl) (by kernel_rfl) (by kernel_rfl) rfl (fl_move rfl) ?_
        refine WL_move rfl rfl ?_
        refine WL_nil ?_
        obtain ⟨x2, hx1, hL1⟩ := bind_some hL1
        refine WA_take 2 rfl (by kernel_rfl) (by kernel_rfl) (by kernel_rfl) rfl (fl_index Try.underlying36 ty77 g1 hx1 rfl rfl) ?_
        refine WL_index Try.underlying36 ty77 g1 hx1 rfl rfl rfl (fun b2 o1 h1 => ?_)
        refine WL_nil ?_
        refine WA.sub (l' := [(0, u1), (3, (ptr b1 0)), (5, (.int .i64 x1)), (6, (.int .i64 x1)), (7, u1), (8, (.int .i64 (List.length a1 : Int))), (9, (.bool (decide (x1 < (List.length a1 : Int))))), (12, u1), (13, (.int .i64 x1)), (14, (ptr b2 o1))]) ?_ ⟨rfl, rfl, rfl, rfl, rfl, rfl, rfl, rfl, rfl, rfl, trivial⟩
        refine WA_postsE [⟨3, [], fun vs => PW.ro [] w0 x2, []⟩, ⟨4, [], fun vs => PW.val (.agg #[(.int .i64 a2.1), u2]), []⟩] [[], []] 2 rfl (by kernel_rfl) (by kernel_rfl) rfl ?_ ?_
        · refine StepsE_cons rfl ?_ ?_
          · intro w4 hB4
            refine DepsE_nil ?_
            refine ⟨_, rfl, ?_⟩
            refine WL_load ty77 h1 (hC3.keep.then hB4) rfl rfl (fun v3 h4 => ?_)
            refine WL_nil ?_
            exact FinE_val (Below.refl _ _) rfl rfl ⟨rfl, h4⟩
          refine StepsE_cons rfl ?_ ?_
          · intro w4 hB4
            refine DepsE_nil ?_
            refine ⟨_, rfl, ?_⟩
            refine WL_load_box_agg [(.int .i64 a2.1), u2] (hC3.grow hB4) 0 rfl rfl rfl Try.isAgg77 Try.sizeOf77 rfl rfl ?_
            refine WL_nil ?_
            exact FinE_val (Below.refl _ _) rfl rfl ⟨rfl, rfl⟩
          exact StepsE_nil
        · intro w5 hB5
          refine AllE_cons rfl rfl rfl ?_
          rintro v3 _ ⟨rfl, h4⟩
          obtain ⟨v2, rfl, h3⟩ := ro_st77 h4
          refine AllE_cons rfl rfl rfl ?_
          rintro _ _ ⟨rfl, rfl⟩
          refine AllE_nil ?_
          intro hn1 hb1
          have hC4 := hC3.grow hB5
          obtain ⟨x3, hr2, hL1⟩ := bind_some hL1
          refine WA_one 5 (by kernel_rfl) rfl ?_
          refine WL_call Try.call101 rfl rfl (c_S_CompareFacts x2 v2 (h3.now hC4.keep) (a2.1, a2.2) u2 (g2.now hC4.keep) x3 hr2) ?_
          intro _ w6 hv1
          obtain ⟨rfl, hB6⟩ := res_int hv1
          have hC5 := hC4.grow hB6
          refine WL_nil ?_
          refine WA_take 6 rfl (by kernel_rfl) (by kernel_rfl) (by kernel_rfl) rfl (fl_eql rfl rfl) ?_
          refine WL_eql rfl rfl rfl ?_
          refine WL_nil ?_
          refine WA_done (by kernel_rfl) ?_
          refine nrm_normal ?_
          refine W_cond rfl (fun hc2 => ?_) (fun hc2 => ?_)
          · replace hL1 := ite_t hL1 hc2
            refine W_seq_reg ?_
            refine WL_assign rfl rfl ?_
            refine WL_nil ?_
            refine W_ret ?_
            refine blk_ret ?_
            refine nrm_ret ?_
            refine nrm_ret ?_
            refine blk_ret ?_
            refine nrm_ret ?_
            refine nrm_ret ?_
            have hq1 := Option.some.inj hL1
            subst hq1
            dsimp only at hF
            have hq2 := Option.some.inj hF
            subst hq2
            refine fn_ret1 rfl rfl ?_
            exact ⟨_, rfl, bool_res hC5 _⟩
          · replace hL1 := ite_f hL1 hc2
            refine W_skip ?_
            refine blk_normal ?_
            refine nrm_normal ?_
            refine W_reg ?_
            refine WL_move rfl rfl ?_
            refine WL_add rfl rfl rfl ?_
            refine WL_assign rfl rfl ?_
            refine WL_nil ?_
            refine nrm_sub (l' := [(0, u1), (3, (ptr b1 0)), (5, (.int .i64 (w64 (x1 + 1))))]) ⟨rfl, rfl, rfl, trivial⟩ ?_
            exact ⟨k1, Nat.lt_succ_self _, w64 (x1 + 1), rfl, ((((Keep.of hB2).then hB3).then hB5).then hB6).below, hC5, hL1⟩
      · replace hL1 := ite_f hL1 hc1
        refine W_exit ?_
        refine nrm_exit ?_
        refine nrm_exit ?_
        refine blk_exit ?_
        have hq3 := Option.some.inj hL1
        subst hq3
        have hC6 : Ctx [] w0 _ [] := hC2.headN 0
        refine nrm_sub (l' := []) trivial ?_
        exact ⟨rfl, rfl, (Keep.of hB2).below, hC6⟩
  · rintro l2 _ w7 hs2 ⟨rfl, rfl, hB7, hC7⟩
    try dsimp only at hF
    refine nrm_sub' hs2 ?_
    clear hs2
    refine W_seq_reg ?_
    refine WL_assign rfl rfl ?_
    refine WL_nil ?_
    refine W_ret ?_
    have hq4 := Option.some.inj hF
    subst hq4
    refine fn_ret1 rfl rfl ?_
    exact ⟨_, rfl, bool_res hC7 _⟩

theorem c_S_l2One {w0 : World} (a1 : Int) (a2 : (List Int)) (u1 : Value) (g1 : RO [] w0 u1 a2) (rr : (Int × (List Int))) (hF : S.l2One a1 a2 = some rr) :
    Calls Try.prog 102 [(.int .i64 a1), u1].toArray w0 fun e w' => ∃ v, e = .returned v ∧ Res w0 rr v w' := by
  refine calls_of_W Try.func102 rfl rfl ?_
  have hC0 := Ctx.start w0
  unfold S.l2One at hF
  refine W_seq_reg ?_
  refine WL_alloc hC0 zero77 rfl rfl (fun b1 w1 hC1 hB1 => ?_)
  refine WL_nil ?_
  refine W_seq_reg ?_
  refine WL_move rfl rfl ?_
  refine WL_buildSlice (vs := []) hC1 Try.underlying22 ty3 rfl rfl rfl rfl (by simp) rfl rfl (fun b2 w2 hC2 hB2 => ?_)
  have hC3 := hC2.row0 (α := Int)
  have hC4 := hC3.front 1 rfl
  dsimp only [List.eraseIdx, List.cons_append, List.nil_append, List.append_nil] at hC4
  have hC5 : Ctx [] w0 w2 (Item.own (.slice (some ⟨b2, 0, none⟩) 0 0) (([] : List Int) : List Int) :: [Item.box b1 [(.int .i64 0), (.slice none 0 0)]]) := hC4.rowOwn (by simp [maxLen])
  refine WL_move rfl rfl ?_
  obtain ⟨x1, hx1, hF⟩ := bind_some hF
  refine WL_append_flat (α := Int) hC5 0 rfl g1 hC5.keep Try.underlying22 ty3 rfl hx1 rfl rfl rfl (fun v1 w3 hC6 => ?_)
  try dsimp only [List.set] at hC6
  refine WL_build (vs := [(0, (.int .i64 a1)), (1, v1)]) rfl rfl rfl (built77_0_1 rfl (ro_cells (hC6.ro 0 rfl))) ?_
  refine WL_store_box_agg (cs' := [(.int .i64 a1), v1]) (new := [(.int .i64 a1), v1]) hC6 1 rfl rfl (by intro v hv; simp only [List.mem_cons, List.not_mem_nil, or_false] at hv; rcases hv with rfl | rfl; exact rfl; exact (ro_one (hC6.ro 0 rfl))) rfl Try.sizeOf77 rfl rfl (fun w4 hC7 => ?_)
  try dsimp only [List.set] at hC7
  refine WL_nil ?_
  refine W_ret ?_
  have hq1 := Option.some.inj hF
  subst hq1
  refine fn_retG1 rfl (rv_cell_agg (cs' := [(.int .i64 a1), v1]) hC7 (i := 1) rfl rfl rfl Try.isAgg77 Try.sizeOf77 rfl) ?_
  have hC8 := own_st77 a1 v1 x1 hC7
  exact ⟨_, rfl, own_res hC8 0 rfl⟩

theorem c_S_AddFact {w0 : World} (a1 : (List (Int × (List Int)))) (u1 : Value) (g1 : RO [] w0 u1 a1) (a2 : (Int × (List Int))) (u2 : Value) (g2 : RO [] w0 u2 a2.2) (rr : (List (Int × (List Int)))) (hF : S.AddFact a1 a2 = some rr) :
    Calls Try.prog 76 [u1, (.agg #[(.int .i64 a2.1), u2])].toArray w0 fun e w' => ∃ v, e = .returned v ∧ Res w0 rr v w' := by
  refine calls_of_W Try.func76 rfl rfl ?_
  have hC0 := Ctx.start w0
  unfold S.AddFact at hF
  refine W_seq_reg ?_
  refine WL_box (cs := [(.int .i64 a2.1), u2]) hC0 rfl rfl rfl (fun b1 w1 hC1 hB1 => ?_)
  refine WL_assign rfl rfl ?_
  refine WL_nil ?_
  refine W_seq_reg ?_
  refine WL_buildSlice (vs := []) hC1 Try.underlying36 ty77 rfl rfl rfl rfl (by simp) rfl rfl (fun b2 w2 hC2 hB2 => ?_)
  have hC3 := hC2.row0 (α := (Int × (List Int)))
  have hC4 := hC3.front 1 rfl
  dsimp only [List.eraseIdx, List.cons_append, List.nil_append, List.append_nil] at hC4
  have hC5 : Ctx [] w0 w2 (Item.own (.slice (some ⟨b2, 0, none⟩) 0 0) (([] : List (Int × (List Int))) : List (Int × (List Int))) :: [Item.box b1 [(.int .i64 a2.1), u2]]) := hC4.rowOwn (by simp [maxLen])
  refine WL_assign rfl rfl ?_
  refine WL_nil ?_
  refine W_seq_reg ?_
  refine WL_move rfl rfl ?_
  refine WL_load_box_agg [(.int .i64 a2.1), u2] hC5 1 rfl rfl rfl Try.isAgg77 Try.sizeOf77 rfl rfl ?_
  obtain ⟨x1, hr1, hF⟩ := bind_some hF
  refine WL_call Try.call92 rfl rfl (c_S_HasFact a1 u1 (g1.now hC5.keep) (a2.1, a2.2) u2 (g2.now hC5.keep) x1 hr1) ?_
  intro _ w3 hv1
  obtain ⟨rfl, hB3⟩ := res_bool hv1
  have hC6 := hC5.grow hB3
  refine WL_assign rfl rfl ?_
  refine WL_nil ?_
  refine W_seq ?_
  refine W_seq_reg ?_
  refine WL_assign rfl rfl ?_
  refine WL_nil ?_
  obtain ⟨r1, hr2, hF⟩ := bind_some hF
  refine W_norm (fun l w => ∃ v2 : Value, ∃ x5 : (List (Int × (List Int))), ∃ x6 : Bool, (x5, x6) = r1 ∧ l = [(3, (ptr b1 0)), (5, v2), (6, (.bool x6))] ∧ Ctx [] w0 w [Item.own v2 (x5 : (List (Int × (List Int)))), Item.box b1 [(.int .i64 a2.1), u2]]) ?_ ?_
  · refine W_block ?_
    refine W.sub (l' := [(0, u1), (3, (ptr b1 0)), (5, (.slice (some ⟨b2, 0, none⟩) 0 0)), (6, (.bool x1)), (7, (.int .i64 0))]) ?_ ⟨rfl, rfl, rfl, rfl, rfl, trivial⟩
    refine W_loop (fun k l w => ∃ v1 : Value, ∃ x2 : (List (Int × (List Int))), ∃ x3 : Bool, ∃ x4 : Int, l = [(0, u1), (3, (ptr b1 0)), (5, v1), (6, (.bool x3)), (7, (.int .i64 x4))] ∧ Ctx [] w0 w [Item.own v1 (x2 : (List (Int × (List Int)))), Item.box b1 [(.int .i64 a2.1), u2]] ∧ S.AddFact_l1 a1 a2 k x2 x3 x4 = some r1) FUEL ⟨(.slice (some ⟨b2, 0, none⟩) 0 0), ([] : List (Int × (List Int))), x1, 0, rfl, hC6, hr2⟩ ?_
    clear hr2
    rintro k1 _ w4 ⟨v1, x2, x3, x4, rfl, hC7, hL1⟩
    cases k1 with
    | zero => rw [S.AddFact_l1] at hL1; cases hL1
    | succ k1 =>
      rw [S.AddFact_l1] at hL1
      refine W_seq ?_
      refine W_seq_reg ?_
      refine WL_move rfl rfl ?_
      refine WL_move rfl rfl ?_
      refine WL_len Try.underlying36 g1 rfl rfl ?_
      refine WL_lss rfl rfl rfl ?_
      refine WL_nil ?_
      refine W_cond rfl (fun hc1 => ?_) (fun hc1 => ?_)
      · replace hL1 := ite_t hL1 hc1
        refine W_skip ?_
        refine nrm_normal ?_
        refine W_seq ?_
        refine W_block ?_
        refine W_seq ?_
        obtain ⟨r2, hr3, hL1⟩ := bind_some hL1
        refine W_cut (fun l w => ∃ x7 : Bool, x7 = r2 ∧ l = [(0, u1), (3, (ptr b1 0)), (5, v1), (6, (.bool x3)), (7, (.int .i64 x4)), (28, (.bool x7))] ∧ Below w4.heap.size w4 w ∧ Ctx [] w0 w [Item.own v1 (x2 : (List (Int × (List Int)))), Item.box b1 [(.int .i64 a2.1), u2]]) ?_ ?_
        · refine W_drawn 11 rfl hmix (fun w6 hB6 => ?_)
          have hC9 := hC7.grow hB6
          refine WA_take 0 rfl (by kernel_rfl) (by kernel_rfl) (by kernel_rfl) rfl (fl_move rfl) ?_
          refine WL_move rfl rfl ?_
          refine WL_nil ?_
          refine WA_take 1 rfl (by kernel_rfl) (by kernel_rfl) (by kernel_rfl) rfl (fl_not rfl) ?_
          refine WL_not rfl rfl ?_
          refine WL_nil ?_
          refine WA_take 2 rfl (by kernel_rfl) (by kernel_rfl) (by kernel_rfl) rfl (fl_move rfl) ?_
          refine WL_move rfl rfl ?_
          refine WL_nil ?_
          refine WA_fork (fun hc2 => ?_) (fun hc2 => ?_)
          · replace hr3 := ite_t hr3 hc2
            refine WA_takeG 4 rfl (by kernel_rfl) (by kernel_rfl) (by kernel_rfl) rfl rfl rfl (fl_move rfl) ?_
            refine WL_guard rfl rfl ?_
            refine WL_move rfl rfl ?_
            refine WL_nil ?_
            refine WA_takeG 5 rfl (by kernel_rfl) (by kernel_rfl) (by kernel_rfl) rfl rfl rfl (fl_move rfl) ?_
            refine WL_guard rfl rfl ?_
            refine WL_move rfl rfl ?_
            refine WL_nil ?_
            obtain ⟨x8, hx1, hr3⟩ := bind_some hr3
            refine WA_takeG 6 rfl (by kernel_rfl) (by kernel_rfl) (by kernel_rfl) rfl rfl rfl (fl_index Try.underlying36 ty77 g1 hx1 rfl rfl) ?_
            refine WL_guard rfl rfl ?_
            refine WL_index Try.underlying36 ty77 g1 hx1 rfl rfl rfl (fun b3 o1 h1 => ?_)
            refine WL_nil ?_
            refine WA.sub (l' := [(0, u1), (3, (ptr b1 0)), (5, v1), (6, (.bool x3)), (7, (.int .i64 x4)), (12, (.int .i64 x4)), (13, u1), (14, (.int .i64 (List.length a1 : Int))), (15, (.bool (decide (x4 < (List.length a1 : Int))))), (18, (.bool x3)), (19, (.bool (!x3))), (20, (.bool true)), (22, u1), (23, (.int .i64 x4)), (24, (ptr b3 o1))]) ?_ ⟨rfl, rfl, rfl, rfl, rfl, rfl, rfl, rfl, rfl, rfl, rfl, rfl, rfl, rfl, rfl, trivial⟩
            refine WA_postsE [⟨3, [], fun vs => PW.val (.agg #[(.int .i64 a2.1), u2]), []⟩, ⟨7, [], fun vs => PW.ro [] w0 x8, []⟩] [[], []] 3 rfl (by kernel_rfl) (by kernel_rfl) rfl ?_ ?_
            · refine StepsE_cons rfl ?_ ?_
              · intro w7 hB7
                refine DepsE_nil ?_
                refine ⟨_, rfl, ?_⟩
                refine WL_guard rfl rfl ?_
                refine WL_load_box_agg [(.int .i64 a2.1), u2] (hC9.grow hB7) 1 rfl rfl rfl Try.isAgg77 Try.sizeOf77 rfl rfl ?_
                refine WL_nil ?_
                exact FinE_val (Below.refl _ _) rfl rfl ⟨rfl, rfl⟩
              refine StepsE_cons rfl ?_ ?_
              · intro w7 hB7
                refine DepsE_nil ?_
                refine ⟨_, rfl, ?_⟩
                refine WL_guard rfl rfl ?_
                refine WL_load ty77 h1 (hC9.keep.then hB7) rfl rfl (fun v5 h4 => ?_)
                refine WL_nil ?_
                exact FinE_val (Below.refl _ _) rfl rfl ⟨rfl, h4⟩
              exact StepsE_nil
            · intro w8 hB8
              refine AllE_cons rfl rfl rfl ?_
              rintro _ _ ⟨rfl, rfl⟩
              refine AllE_cons rfl rfl rfl ?_
              rintro v5 _ ⟨rfl, h4⟩
              obtain ⟨v4, rfl, h3⟩ := ro_st77 h4
              refine AllE_nil ?_
              intro hn1 hb1
              have hC10 := hC9.grow hB8
              obtain ⟨x9, hr4, hr3⟩ := bind_some hr3
              refine WA_one 8 (by kernel_rfl) rfl ?_
              refine WL_guard rfl rfl ?_
              refine WL_call Try.call101 rfl rfl (c_S_CompareFacts (a2.1, a2.2) u2 (g2.now hC10.keep) x8 v4 (h3.now hC10.keep) x9 hr4) ?_
              intro _ w9 hv2
              obtain ⟨rfl, hB9⟩ := res_int hv2
              have hC11 := hC10.grow hB9
              refine WL_nil ?_
              refine WA_takeG 9 rfl (by kernel_rfl) (by kernel_rfl) (by kernel_rfl) rfl rfl rfl (fl_lss rfl rfl) ?_
              refine WL_guard rfl rfl ?_
              refine WL_lss rfl rfl rfl ?_
              refine WL_nil ?_
              refine WA_take 10 rfl (by kernel_rfl) (by kernel_rfl) (by kernel_rfl) rfl (fl_pick_t rfl rfl) ?_
              refine WL_pick_t rfl rfl rfl ?_
              refine WL_nil ?_
              refine WA_done (by kernel_rfl) ?_
              have hq1 := Option.some.inj hr3
              subst hq1
              refine nrm_sub (l' := [(0, u1), (3, (ptr b1 0)), (5, v1), (6, (.bool x3)), (7, (.int .i64 x4)), (28, (.bool (decide (x9 < 0))))]) ⟨rfl, rfl, rfl, rfl, rfl, rfl, trivial⟩ ?_
              exact ⟨(decide (x9 < 0)), rfl, rfl, (((Keep.of hB6).then hB8).then hB9).below, hC11⟩
          · replace hr3 := ite_f hr3 hc2
            refine WA_skip 3 rfl (by kernel_rfl) (by kernel_rfl) (by kernel_rfl) rfl rfl rfl (by simp) rfl rfl ?_
            refine WA_skip 4 rfl (by kernel_rfl) (by kernel_rfl) (by kernel_rfl) rfl rfl rfl (by simp) rfl rfl ?_
            refine WA_skip 5 rfl (by kernel_rfl) (by kernel_rfl) (by kernel_rfl) rfl rfl rfl (by simp) rfl rfl ?_
            refine WA_skip 6 rfl (by kernel_rfl) (by kernel_rfl) (by kernel_rfl) rfl rfl rfl (by simp) rfl rfl ?_
            refine WA_skip 7 rfl (by kernel_rfl) (by kernel_rfl) (by kernel_rfl) rfl rfl rfl (by simp) rfl rfl ?_
            refine WA_skip 8 rfl (by kernel_rfl) (by kernel_rfl) (by kernel_rfl) rfl rfl rfl (by simp) rfl rfl ?_
            refine WA_skip 9 rfl (by kernel_rfl) (by kernel_rfl) (by kernel_rfl) rfl rfl rfl (by simp) rfl rfl ?_
            refine WA_take 10 rfl (by kernel_rfl) (by kernel_rfl) (by kernel_rfl) rfl (fl_pick_f rfl rfl) ?_
            refine WL_pick_f rfl rfl rfl ?_
            refine WL_nil ?_
            refine WA_done (by kernel_rfl) ?_
            have hq2 := Option.some.inj hr3
            subst hq2
            refine nrm_sub (l' := [(0, u1), (3, (ptr b1 0)), (5, v1), (6, (.bool x3)), (7, (.int .i64 x4)), (28, (.bool false))]) ⟨rfl, rfl, rfl, rfl, rfl, rfl, trivial⟩ ?_
            exact ⟨false, rfl, rfl, (Keep.of hB6).below, hC9⟩
        · rintro _ w5 ⟨x7, rfl, rfl, hB5, hC8⟩
          try dsimp only at hL1
          obtain ⟨r3, hr5, hL1⟩ := bind_some hL1
          refine W_norm (fun l w => ∃ v6 : Value, ∃ x10 : (List (Int × (List Int))), ∃ x11 : Bool, (x10, x11) = r3 ∧ l = [(0, u1), (3, (ptr b1 0)), (5, v6), (6, (.bool x11)), (7, (.int .i64 x4))] ∧ Ctx [] w0 w [Item.own v6 (x10 : (List (Int × (List Int)))), Item.box b1 [(.int .i64 a2.1), u2]]) ?_ ?_
          · refine W_cond rfl (fun hc3 => ?_) (fun hc3 => ?_)
            · replace hr5 := ite_t hr5 hc3
              refine W_seq_reg ?_
              refine WL_move rfl rfl ?_
              refine WL_field Try.underlying77 rfl rfl (fun w => ⟨_, Try.sizeOf3 w⟩) rfl rfl ?_
              refine WL_load_box hC8 1 rfl rfl Try.isAgg3 rfl rfl ?_
              refine WL_field Try.underlying77 rfl rfl (fun w => ⟨_, Try.sizeOf22 w⟩) rfl rfl ?_
              refine WL_load_box hC8 1 rfl rfl Try.isAgg22 rfl rfl ?_
              obtain ⟨x12, hr6, hr5⟩ := bind_some hr5
              refine WL_call Try.call102 rfl rfl (c_S_l2One a2.1 a2.2 u2 (g2.now hC8.keep) x12 hr6) ?_
              rintro v7 w11 ⟨hB11, F1, hv3, hn2, hb2⟩
              have hC13 := hC8.push hB11 (A := Item.own v7 x12) hv3 hn2 hb2
              obtain ⟨v8, rfl, hC14⟩ := st77_own hC13
              refine WL_buildSlice (vs := [(.agg #[(.int .i64 x12.1), v8])]) hC14 Try.underlying36 ty77 rfl rfl rfl rfl (by intro v hv; simp only [List.mem_cons, List.not_mem_nil, or_false] at hv; rcases hv with rfl <;> rfl) rfl rfl (fun b4 w12 hC15 hB12 => ?_)
              have hC16 := hC15.row0 (α := (Int × (List Int)))
              have hC18 := hC16.front 2 rfl
              dsimp only [List.eraseIdx, List.cons_append, List.nil_append, List.append_nil] at hC18
              have hC17 := own_st77 x12.1 v8 x12.2 hC18
              have hC19 := hC17.row1
              have hC20 := hC19.front 1 rfl
              dsimp only [List.eraseIdx, List.cons_append, List.nil_append, List.append_nil] at hC20
              have hC21 : Ctx [] w0 w12 (Item.own (.slice (some ⟨b4, 0, none⟩) 1 1) ([(x12.1, x12.2)] : List (Int × (List Int))) :: [Item.own v1 (x2 : (List (Int × (List Int)))), Item.box b1 [(.int .i64 a2.1), u2]]) := hC20.rowOwn (by simp [maxLen])
              obtain ⟨x13, hx2, hr5⟩ := bind_some hr5
              refine WL_append_head hC21 0 rfl Try.underlying36 ty77 rfl hx2 rfl rfl rfl (fun v9 w13 hC22 => ?_)
              try dsimp only [List.set] at hC22
              refine WL_assign rfl rfl ?_
              refine WL_nil ?_
              refine W_reg ?_
              refine WL_assign rfl rfl ?_
              refine WL_nil ?_
              have hq3 := Option.some.inj hr5
              subst hq3
              refine nrm_sub (l' := [(0, u1), (3, (ptr b1 0)), (5, v9), (6, (.bool true)), (7, (.int .i64 x4))]) ⟨rfl, rfl, rfl, rfl, rfl, trivial⟩ ?_
              exact ⟨v9, x13, true, rfl, rfl, hC22⟩
            · replace hr5 := ite_f hr5 hc3
              refine W_skip ?_
              have hq4 := Option.some.inj hr5
              subst hq4
              refine nrm_sub (l' := [(0, u1), (3, (ptr b1 0)), (5, v1), (6, (.bool x3)), (7, (.int .i64 x4))]) ⟨rfl, rfl, rfl, rfl, rfl, trivial⟩ ?_
              exact ⟨v1, x2, x3, rfl, rfl, hC8⟩
          · rintro l3 _ w10 hs3 ⟨v6, x10, x11, rfl, rfl, hC12⟩
            try dsimp only at hL1
            refine nrm_sub' hs3 ?_
            clear hs3
            refine W_drawn 15 rfl hmix (fun w14 hB13 => ?_)
            have hC24 := hC12.grow hB13
            refine WA_take 0 rfl (by kernel_rfl) (by kernel_rfl) (by kernel_rfl) rfl (fl_move rfl) ?_
            refine WL_move rfl rfl ?_
            refine WL_nil ?_
            refine WA_take 1 rfl (by kernel_rfl) (by kernel_rfl) (by kernel_rfl) rfl (fl_move rfl) ?_
            refine WL_move rfl rfl ?_
            refine WL_nil ?_
            refine WA_take 2 rfl (by kernel_rfl) (by kernel_rfl) (by kernel_rfl) rfl (fl_move rfl) ?_
            refine WL_move rfl rfl ?_
            refine WL_nil ?_
            obtain ⟨x14, hx3, hL1⟩ := bind_some hL1
            refine WA_take 3 rfl (by kernel_rfl) (by kernel_rfl) (by kernel_rfl) rfl (fl_index Try.underlying36 ty77 g1 hx3 rfl rfl) ?_
            refine WL_index Try.underlying36 ty77 g1 hx3 rfl rfl rfl (fun b5 o2 h5 => ?_)
            refine WL_nil ?_
            refine WA_take 4 rfl (by kernel_rfl) (by kernel_rfl) (by kernel_rfl) rfl (fl_field Try.underlying77 rfl rfl (fun w => ⟨_, Try.sizeOf3 w⟩) rfl) ?_
            refine WL_field Try.underlying77 rfl rfl (fun w => ⟨_, Try.sizeOf3 w⟩) rfl rfl ?_
            refine WL_nil ?_
            refine WA_take 6 rfl (by kernel_rfl) (by kernel_rfl) (by kernel_rfl) rfl (fl_move rfl) ?_
            refine WL_move rfl rfl ?_
            refine WL_nil ?_
            refine WA_take 7 rfl (by kernel_rfl) (by kernel_rfl) (by kernel_rfl) rfl (fl_move rfl) ?_
            refine WL_move rfl rfl ?_
            refine WL_nil ?_
            obtain ⟨x15, hx4, hL1⟩ := bind_some hL1
            refine WA_take 8 rfl (by kernel_rfl) (by kernel_rfl) (by kernel_rfl) rfl (fl_index Try.underlying36 ty77 g1 hx4 rfl rfl) ?_
            refine WL_index Try.underlying36 ty77 g1 hx4 rfl rfl rfl (fun b6 o3 h6 => ?_)
            refine WL_nil ?_
            refine WA_take 9 rfl (by kernel_rfl) (by kernel_rfl) (by kernel_rfl) rfl (fl_field Try.underlying77 rfl rfl (fun w => ⟨_, Try.sizeOf22 w⟩) rfl) ?_
            refine WL_field Try.underlying77 rfl rfl (fun w => ⟨_, Try.sizeOf22 w⟩) rfl rfl ?_
            refine WL_nil ?_
            refine WA.sub (l' := [(0, u1), (3, (ptr b1 0)), (5, v6), (6, (.bool x11)), (7, (.int .i64 x4)), (37, v6), (38, u1), (39, (.int .i64 x4)), (40, (ptr b5 o2)), (41, (ptr b5 (o2 + 0))), (43, u1), (44, (.int .i64 x4)), (45, (ptr b6 o3)), (46, (ptr b6 (o3 + 1)))]) ?_ ⟨rfl, rfl, rfl, rfl, rfl, rfl, rfl, rfl, rfl, rfl, rfl, rfl, rfl, rfl, trivial⟩
            refine WA_postsE [⟨5, [], fun vs => PW.val (.int .i64 x14.1), []⟩, ⟨10, [], fun vs => PW.ro [] w0 x15.2, []⟩] [[], []] 4 rfl (by kernel_rfl) (by kernel_rfl) rfl ?_ ?_
            · refine StepsE_cons rfl ?_ ?_
              · intro w15 hB14
                refine DepsE_nil ?_
                refine ⟨_, rfl, ?_⟩
                refine WL_load ty3 h5.fst (hC24.keep.then hB14) rfl rfl (fun v10 h7 => ?_)
                obtain rfl := ro_int h7
                refine WL_nil ?_
                exact FinE_val (Below.refl _ _) rfl rfl ⟨rfl, rfl⟩
              refine StepsE_cons rfl ?_ ?_
              · intro w15 hB14
                refine DepsE_nil ?_
                refine ⟨_, rfl, ?_⟩
                refine WL_load ty22 h6.snd (hC24.keep.then hB14) rfl rfl (fun v11 h8 => ?_)
                refine WL_nil ?_
                exact FinE_val (Below.refl _ _) rfl rfl ⟨rfl, h8⟩
              exact StepsE_nil
            · intro w16 hB15
              refine AllE_cons rfl rfl rfl ?_
              rintro _ _ ⟨rfl, rfl⟩
              refine AllE_cons rfl rfl rfl ?_
              rintro v11 _ ⟨rfl, h8⟩
              refine AllE_nil ?_
              intro hn3 hb3
              have hC25 := hC24.grow hB15
              obtain ⟨x16, hr7, hL1⟩ := bind_some hL1
              refine WA_one 11 (by kernel_rfl) rfl ?_
              refine WL_call Try.call102 rfl rfl (c_S_l2One x14.1 x15.2 v11 (h8.now hC25.keep) x16 hr7) ?_
              rintro v12 w17 ⟨hB16, F2, hv4, hn4, hb4⟩
              have hC26 := hC25.push hB16 (A := Item.own v12 x16) hv4 hn4 hb4
              obtain ⟨v13, rfl, hC27⟩ := st77_own hC26
              refine WL_nil ?_
              refine WA_one 12 (by kernel_rfl) rfl ?_
              refine WL_buildSlice (vs := [(.agg #[(.int .i64 x16.1), v13])]) hC27 Try.underlying36 ty77 rfl rfl rfl rfl (by intro v hv; simp only [List.mem_cons, List.not_mem_nil, or_false] at hv; rcases hv with rfl <;> rfl) rfl rfl (fun b7 w18 hC28 hB17 => ?_)
              have hC29 := hC28.row0 (α := (Int × (List Int)))
              have hC31 := hC29.front 2 rfl
              dsimp only [List.eraseIdx, List.cons_append, List.nil_append, List.append_nil] at hC31
              have hC30 := own_st77 x16.1 v13 x16.2 hC31
              have hC32 := hC30.row1
              have hC33 := hC32.front 1 rfl
              dsimp only [List.eraseIdx, List.cons_append, List.nil_append, List.append_nil] at hC33
              have hC34 : Ctx [] w0 w18 (Item.own (.slice (some ⟨b7, 0, none⟩) 1 1) ([(x16.1, x16.2)] : List (Int × (List Int))) :: [Item.own v6 (x10 : (List (Int × (List Int)))), Item.box b1 [(.int .i64 a2.1), u2]]) := hC33.rowOwn (by simp [maxLen])
              refine WL_nil ?_
              obtain ⟨x17, hx5, hL1⟩ := bind_some hL1
              refine WA_one 13 (by kernel_rfl) rfl ?_
              refine WL_append_head hC34 0 rfl Try.underlying36 ty77 rfl hx5 rfl rfl rfl (fun v14 w19 hC35 => ?_)
              try dsimp only [List.set] at hC35
              refine WL_nil ?_
              refine WA_take 14 rfl (by kernel_rfl) (by kernel_rfl) (by kernel_rfl) rfl (fl_assign rfl) ?_
              refine WL_assign rfl rfl ?_
              refine WL_nil ?_
              refine WA_done (by kernel_rfl) ?_
              refine blk_normal ?_
              refine nrm_normal ?_
              refine W_reg ?_
              refine WL_move rfl rfl ?_
              refine WL_add rfl rfl rfl ?_
              refine WL_assign rfl rfl ?_
              refine WL_nil ?_
              refine nrm_sub (l' := [(0, u1), (3, (ptr b1 0)), (5, v14), (6, (.bool x11)), (7, (.int .i64 (w64 (x4 + 1))))]) ⟨rfl, rfl, rfl, rfl, rfl, trivial⟩ ?_
              exact ⟨k1, Nat.lt_succ_self _, v14, x17, x11, w64 (x4 + 1), rfl, hC35, hL1⟩
      · replace hL1 := ite_f hL1 hc1
        refine W_exit ?_
        refine nrm_exit ?_
        refine nrm_exit ?_
        refine blk_exit ?_
        have hq5 := Option.some.inj hL1
        subst hq5
        refine nrm_sub (l' := [(3, (ptr b1 0)), (5, v1), (6, (.bool x3))]) ⟨rfl, rfl, rfl, trivial⟩ ?_
        exact ⟨v1, x2, x3, rfl, rfl, hC7⟩
  · rintro l4 _ w20 hs4 ⟨v2, x5, x6, rfl, rfl, hC37⟩
    try dsimp only at hF
    refine nrm_sub' hs4 ?_
    clear hs4
    refine W_seq ?_
    refine W_seq_reg ?_
    refine WL_move rfl rfl ?_
    refine WL_not rfl rfl ?_
    refine WL_nil ?_
    obtain ⟨r4, hr8, hF⟩ := bind_some hF
    refine W_norm (fun l w => ∃ v15 : Value, ∃ x18 : (List (Int × (List Int))), x18 = r4 ∧ l = [(5, v15)] ∧ Ctx [] w0 w [Item.own v15 (x18 : (List (Int × (List Int))))]) ?_ ?_
    · refine W_cond rfl (fun hc4 => ?_) (fun hc4 => ?_)
      · replace hr8 := ite_t hr8 hc4
        refine W_reg ?_
        refine WL_move rfl rfl ?_
        refine WL_field Try.underlying77 rfl rfl (fun w => ⟨_, Try.sizeOf3 w⟩) rfl rfl ?_
        refine WL_load_box hC37 1 rfl rfl Try.isAgg3 rfl rfl ?_
        refine WL_field Try.underlying77 rfl rfl (fun w => ⟨_, Try.sizeOf22 w⟩) rfl rfl ?_
        refine WL_load_box hC37 1 rfl rfl Try.isAgg22 rfl rfl ?_
        obtain ⟨x19, hr9, hr8⟩ := bind_some hr8
        refine WL_call Try.call102 rfl rfl (c_S_l2One a2.1 a2.2 u2 (g2.now hC37.keep) x19 hr9) ?_
        rintro v16 w22 ⟨hB20, F3, hv5, hn5, hb5⟩
        have hC39 := hC37.push hB20 (A := Item.own v16 x19) hv5 hn5 hb5
        obtain ⟨v17, rfl, hC40⟩ := st77_own hC39
        refine WL_buildSlice (vs := [(.agg #[(.int .i64 x19.1), v17])]) hC40 Try.underlying36 ty77 rfl rfl rfl rfl (by intro v hv; simp only [List.mem_cons, List.not_mem_nil, or_false] at hv; rcases hv with rfl <;> rfl) rfl rfl (fun b8 w23 hC41 hB21 => ?_)
        have hC42 := hC41.row0 (α := (Int × (List Int)))
        have hC44 := hC42.front 2 rfl
        dsimp only [List.eraseIdx, List.cons_append, List.nil_append, List.append_nil] at hC44
        have hC43 := own_st77 x19.1 v17 x19.2 hC44
        have hC45 := hC43.row1
        have hC46 := hC45.front 1 rfl
        dsimp only [List.eraseIdx, List.cons_append, List.nil_append, List.append_nil] at hC46
        have hC47 : Ctx [] w0 w23 (Item.own (.slice (some ⟨b8, 0, none⟩) 1 1) ([(x19.1, x19.2)] : List (Int × (List Int))) :: [Item.own v2 (x5 : (List (Int × (List Int)))), Item.box b1 [(.int .i64 a2.1), u2]]) := hC46.rowOwn (by simp [maxLen])
        obtain ⟨x20, hx6, hr8⟩ := bind_some hr8
        refine WL_append_head hC47 0 rfl Try.underlying36 ty77 rfl hx6 rfl rfl rfl (fun v18 w24 hC48 => ?_)
        try dsimp only [List.set] at hC48
        refine WL_assign rfl rfl ?_
        refine WL_nil ?_
        have hq6 := Option.some.inj hr8
        subst hq6
        have hC50 : Ctx [] w0 _ [Item.own v18 (x20 : (List (Int × (List Int))))] := hC48.headN 1
        refine nrm_sub (l' := [(5, v18)]) ⟨rfl, trivial⟩ ?_
        exact ⟨v18, x20, rfl, rfl, hC50⟩
      · replace hr8 := ite_f hr8 hc4
        refine W_skip ?_
        have hq7 := Option.some.inj hr8
        subst hq7
        have hC51 : Ctx [] w0 _ [Item.own v2 (x5 : (List (Int × (List Int))))] := hC37.headN 1
        refine nrm_sub (l' := [(5, v2)]) ⟨rfl, trivial⟩ ?_
        exact ⟨v2, x5, rfl, rfl, hC51⟩
    · rintro l5 _ w21 hs5 ⟨v15, x18, rfl, rfl, hC38⟩
      try dsimp only at hF
      refine nrm_sub' hs5 ?_
      clear hs5
      refine W_seq_reg ?_
      refine WL_move rfl rfl ?_
      refine WL_assign rfl rfl ?_
      refine WL_nil ?_
      refine W_ret ?_
      have hq8 := Option.some.inj hF
      subst hq8
      refine fn_ret1 rfl rfl ?_
      exact ⟨_, rfl, own_res hC38 0 rfl⟩

theorem c_S_UnionOf {w0 : World} (a1 : (List ((Int × (List Int)) × (List (Int × (List Int)))))) (u1 : Value) (g1 : RO [] w0 u1 a1) (rr : (List (Int × (List Int)))) (hF : S.UnionOf a1 = some rr) :
    Calls Try.prog 23 [u1].toArray w0 fun e w' => ∃ v, e = .returned v ∧ Res w0 rr v w' := by
  refine calls_of_W Try.func23 rfl rfl ?_
  have hC0 := Ctx.start w0
  unfold S.UnionOf at hF
  refine W_seq_reg ?_
  refine WL_assign rfl rfl ?_
  refine WL_nil ?_
  refine W_seq_reg ?_
  refine WL_buildSlice (vs := []) hC0 Try.underlying36 ty77 rfl rfl rfl rfl (by simp) rfl rfl (fun b1 w1 hC1 hB1 => ?_)
  have hC2 := hC1.row0 (α := (Int × (List Int)))
  have hC3 := hC2.front 1 rfl
  dsimp only [List.eraseIdx, List.cons_append, List.nil_append, List.append_nil] at hC3
  have hC4 : Ctx [] w0 w1 (Item.own (.slice (some ⟨b1, 0, none⟩) 0 0) (([] : List (Int × (List Int))) : List (Int × (List Int))) :: []) := hC3.rowOwn (by simp [maxLen])
  refine WL_assign rfl rfl ?_
  refine WL_nil ?_
  refine W_seq ?_
  refine W_seq_reg ?_
  refine WL_assign rfl rfl ?_
  refine WL_nil ?_
  obtain ⟨r1, hr1, hF⟩ := bind_some hF
  refine W_norm (fun l w => ∃ v2 : Value, ∃ x3 : (List (Int × (List Int))), x3 = r1 ∧ l = [(3, v2)] ∧ Below w1.heap.size w1 w ∧ Ctx [] w0 w [Item.own v2 (x3 : (List (Int × (List Int))))]) ?_ ?_
  · refine W_block ?_
    refine W.sub (l' := [(0, u1), (3, (.slice (some ⟨b1, 0, none⟩) 0 0)), (4, (.int .i64 0))]) ?_ ⟨rfl, rfl, rfl, trivial⟩
    refine W_loop (fun k l w => ∃ v1 : Value, ∃ x1 : (List (Int × (List Int))), ∃ x2 : Int, l = [(0, u1), (3, v1), (4, (.int .i64 x2))] ∧ Below w1.heap.size w1 w ∧ Ctx [] w0 w [Item.own v1 (x1 : (List (Int × (List Int))))] ∧ S.UnionOf_l1 a1 k x1 x2 = some r1) FUEL ⟨(.slice (some ⟨b1, 0, none⟩) 0 0), ([] : List (Int × (List Int))), 0, rfl, (Below.refl _ _), hC4, hr1⟩ ?_
    clear hr1
    rintro k1 _ w2 ⟨v1, x1, x2, rfl, hB2, hC5, hL1⟩
    cases k1 with
    | zero => rw [S.UnionOf_l1] at hL1; cases hL1
    | succ k1 =>
      rw [S.UnionOf_l1] at hL1
      refine W_seq ?_
      refine W_seq_reg ?_
      refine WL_move rfl rfl ?_
      refine WL_move rfl rfl ?_
      refine WL_len Try.underlying47 g1 rfl rfl ?_
      refine WL_lss rfl rfl rfl ?_
      refine WL_nil ?_
      refine W_cond rfl (fun hc1 => ?_) (fun hc1 => ?_)
      · replace hL1 := ite_t hL1 hc1
        refine W_skip ?_
        refine nrm_normal ?_
        refine W_seq ?_
        refine W_block ?_
        refine W_seq_reg ?_
        refine WL_assign rfl rfl ?_
        refine WL_nil ?_
        obtain ⟨r2, hr2, hL1⟩ := bind_some hL1
        refine W_norm (fun l w => ∃ v4 : Value, ∃ x6 : (List (Int × (List Int))), x6 = r2 ∧ l = [(0, u1), (3, v4), (4, (.int .i64 x2))] ∧ Below w2.heap.size w2 w ∧ Ctx [] w0 w [Item.own v4 (x6 : (List (Int × (List Int))))]) ?_ ?_
        · refine W_block ?_
          refine W.sub (l' := [(0, u1), (3, v1), (4, (.int .i64 x2)), (5, (.int .i64 0))]) ?_ ⟨rfl, rfl, rfl, rfl, trivial⟩
          refine W_loop (fun k l w => ∃ v3 : Value, ∃ x4 : (List (Int × (List Int))), ∃ x5 : Int, l = [(0, u1), (3, v3), (4, (.int .i64 x2)), (5, (.int .i64 x5))] ∧ Below w2.heap.size w2 w ∧ Ctx [] w0 w [Item.own v3 (x4 : (List (Int × (List Int))))] ∧ S.UnionOf_l2 a1 x2 k x4 x5 = some r2) FUEL ⟨v1, x1, 0, rfl, (Below.refl _ _), hC5, hr2⟩ ?_
          clear hr2
          rintro k2 _ w3 ⟨v3, x4, x5, rfl, hB3, hC6, hL2⟩
          cases k2 with
          | zero => rw [S.UnionOf_l2] at hL2; cases hL2
          | succ k2 =>
            rw [S.UnionOf_l2] at hL2
            refine W_seq ?_
            refine W_seq_reg ?_
            refine WL_move rfl rfl ?_
            refine WL_move rfl rfl ?_
            refine WL_move rfl rfl ?_
            obtain ⟨x7, hx1, hL2⟩ := bind_some hL2
            refine WL_index Try.underlying47 ty38 g1 hx1 rfl rfl rfl (fun b2 o1 h1 => ?_)
            refine WL_field Try.underlying38 rfl rfl (fun w => ⟨_, Try.sizeOf36 w⟩) rfl rfl ?_
            refine WL_load ty36 h1.snd hC6.keep rfl rfl (fun v5 h2 => ?_)
            refine WL_len Try.underlying36 h2 rfl rfl ?_
            refine WL_lss rfl rfl rfl ?_
            refine WL_nil ?_
            refine W_cond rfl (fun hc2 => ?_) (fun hc2 => ?_)
            · replace hL2 := ite_t hL2 hc2
              refine W_skip ?_
              refine nrm_normal ?_
              refine W_seq ?_
              refine W_block ?_
              refine W_reg ?_
              refine WL_move rfl rfl ?_
              refine WL_move rfl rfl ?_
              refine WL_move rfl rfl ?_
              obtain ⟨x8, hx2, hL2⟩ := bind_some hL2
              refine WL_index Try.underlying47 ty38 g1 hx2 rfl rfl rfl (fun b3 o2 h3 => ?_)
              refine WL_field Try.underlying38 rfl rfl (fun w => ⟨_, Try.sizeOf36 w⟩) rfl rfl ?_
              refine WL_load ty36 h3.snd hC6.keep rfl rfl (fun v6 h4 => ?_)
              refine WL_move rfl rfl ?_
              obtain ⟨x9, hx3, hL2⟩ := bind_some hL2
              refine WL_index Try.underlying36 ty77 h4 hx3 rfl rfl rfl (fun b4 o3 h5 => ?_)
              refine WL_load ty77 h5 hC6.keep rfl rfl (fun v7 h6 => ?_)
              obtain ⟨v8, rfl, h7⟩ := ro_st77 h6
              obtain ⟨x10, hr3, hL2⟩ := bind_some hL2
              refine WL_call Try.call76 rfl rfl (c_S_AddFact x4 v3 ((hC6.ro 0 rfl).now (Keep.refl _ _)) x9 v8 (h7.now hC6.keep) x10 hr3) ?_
              rintro v9 w4 ⟨hB4, F1, hv1, hn1, hb1⟩
              have hC7 := hC6.push hB4 (A := Item.own v9 x10) hv1 hn1 hb1
              refine WL_assign rfl rfl ?_
              refine WL_nil ?_
              refine blk_normal ?_
              refine nrm_normal ?_
              refine W_reg ?_
              refine WL_move rfl rfl ?_
              refine WL_add rfl rfl rfl ?_
              refine WL_assign rfl rfl ?_
              refine WL_nil ?_
              have hC8 : Ctx [] w0 _ [Item.own v9 (x10 : (List (Int × (List Int))))] := hC7.headN 1
              refine nrm_sub (l' := [(0, u1), (3, v9), (4, (.int .i64 x2)), (5, (.int .i64 (w64 (x5 + 1))))]) ⟨rfl, rfl, rfl, rfl, trivial⟩ ?_
              exact ⟨k2, Nat.lt_succ_self _, v9, x10, w64 (x5 + 1), rfl, ((Keep.of hB3).then hB4).below, hC8, hL2⟩
            · replace hL2 := ite_f hL2 hc2
              refine W_exit ?_
              refine nrm_exit ?_
              refine nrm_exit ?_
              refine blk_exit ?_
              have hq1 := Option.some.inj hL2
              subst hq1
              refine nrm_sub (l' := [(0, u1), (3, v3), (4, (.int .i64 x2))]) ⟨rfl, rfl, rfl, trivial⟩ ?_
              exact ⟨v3, x4, rfl, rfl, (Keep.of hB3).below, hC6⟩
        · rintro l3 _ w5 hs3 ⟨v4, x6, rfl, rfl, hB5, hC9⟩
          try dsimp only at hL1
          refine blk_normal ?_
          refine nrm_sub' hs3 ?_
          clear hs3
          refine W_reg ?_
          refine WL_move rfl rfl ?_
          refine WL_add rfl rfl rfl ?_
          refine WL_assign rfl rfl ?_
          refine WL_nil ?_
          refine nrm_sub (l' := [(0, u1), (3, v4), (4, (.int .i64 (w64 (x2 + 1))))]) ⟨rfl, rfl, rfl, trivial⟩ ?_
          exact ⟨k1, Nat.lt_succ_self _, v4, x6, w64 (x2 + 1), rfl, ((Keep.of hB2).then hB5).below, hC9, hL1⟩
      · replace hL1 := ite_f hL1 hc1
        refine W_exit ?_
        refine nrm_exit ?_
        refine nrm_exit ?_
        refine blk_exit ?_
        have hq2 := Option.some.inj hL1
        subst hq2
        refine nrm_sub (l' := [(3, v1)]) ⟨rfl, trivial⟩ ?_
        exact ⟨v1, x1, rfl, rfl, (Keep.of hB2).below, hC5⟩
  · rintro l4 _ w6 hs4 ⟨v2, x3, rfl, rfl, hB6, hC10⟩
    try dsimp only at hF
    refine nrm_sub' hs4 ?_
    clear hs4
    refine W_seq_reg ?_
    refine WL_move rfl rfl ?_
    refine WL_assign rfl rfl ?_
    refine WL_nil ?_
    refine W_ret ?_
    have hq3 := Option.some.inj hF
    subst hq3
    refine fn_ret1 rfl rfl ?_
    exact ⟨_, rfl, own_res hC10 0 rfl⟩

theorem c_Q_toIntS {w0 : World} (a1 : (List Int)) (u1 : Value) (g1 : RO [] w0 u1 a1) (rr : (List Int)) (hF : Q.toIntS a1 = some rr) :
    Calls Try.prog 15 [u1].toArray w0 fun e w' => ∃ v, e = .returned v ∧ Res w0 rr v w' := by
  refine calls_of_W Try.func15 rfl rfl ?_
  have hC0 := Ctx.start w0
  unfold Q.toIntS at hF
  refine W_seq_reg ?_
  refine WL_assign rfl rfl ?_
  refine WL_nil ?_
  refine W_seq_reg ?_
  refine WL_move rfl rfl ?_
  refine WL_len Try.underlying22 g1 rfl rfl ?_
  obtain ⟨x1, hx1, hF⟩ := bind_some hF
  refine WL_makeSlice hC0 Try.underlying22 ty3 rfl zc3 zr3 hx1 rfl rfl rfl (fun b1 w1 hC1 hB1 => ?_)
  refine WL_assign rfl rfl ?_
  refine WL_nil ?_
  refine W_seq ?_
  refine W_seq_reg ?_
  refine WL_assign rfl rfl ?_
  refine WL_nil ?_
  obtain ⟨r1, hr1, hF⟩ := bind_some hF
  refine W_norm (fun l w => ∃ x4 : (List Int), x4 = r1 ∧ l = [(3, (.slice (some ⟨b1, 0, none⟩) (Int.toNat (List.length a1 : Int)) (Int.toNat (List.length a1 : Int))))] ∧ Ctx [] w0 w [Item.own (.slice (some ⟨b1, 0, none⟩) (Int.toNat (List.length a1 : Int)) (Int.toNat (List.length a1 : Int))) (x4 : (List Int))]) ?_ ?_
  · refine W_block ?_
    refine W.sub (l' := [(0, u1), (3, (.slice (some ⟨b1, 0, none⟩) (Int.toNat (List.length a1 : Int)) (Int.toNat (List.length a1 : Int)))), (4, (.int .i64 0))]) ?_ ⟨rfl, rfl, rfl, trivial⟩
    refine W_loop (fun k l w => ∃ x2 : (List Int), ∃ x3 : Int, l = [(0, u1), (3, (.slice (some ⟨b1, 0, none⟩) (Int.toNat (List.length a1 : Int)) (Int.toNat (List.length a1 : Int)))), (4, (.int .i64 x3))] ∧ Ctx [] w0 w [Item.own (.slice (some ⟨b1, 0, none⟩) (Int.toNat (List.length a1 : Int)) (Int.toNat (List.length a1 : Int))) (x2 : (List Int))] ∧ Q.toIntS_l1 a1 k x2 x3 = some r1) FUEL ⟨x1, 0, rfl, hC1, hr1⟩ ?_
    clear hr1
    rintro k1 _ w2 ⟨x2, x3, rfl, hC2, hL1⟩
    cases k1 with
    | zero => rw [Q.toIntS_l1] at hL1; cases hL1
    | succ k1 =>
      rw [Q.toIntS_l1] at hL1
      refine W_seq ?_
      refine W_seq_reg ?_
      refine WL_move rfl rfl ?_
      refine WL_move rfl rfl ?_
      refine WL_len Try.underlying22 g1 rfl rfl ?_
      refine WL_lss rfl rfl rfl ?_
      refine WL_nil ?_
      refine W_cond rfl (fun hc1 => ?_) (fun hc1 => ?_)
      · replace hL1 := ite_t hL1 hc1
        refine W_skip ?_
        refine nrm_normal ?_
        refine W_seq ?_
        refine W_block ?_
        refine W_reg ?_
        refine WL_move rfl rfl ?_
        refine WL_move rfl rfl ?_
        refine WL_move rfl rfl ?_
        refine WL_move rfl rfl ?_
        obtain ⟨x5, hx2, hL1⟩ := bind_some hL1
        refine WL_index Try.underlying22 ty3 g1 hx2 rfl rfl rfl (fun b2 o1 h1 => ?_)
        refine WL_load ty3 h1 hC2.keep rfl rfl (fun v1 h2 => ?_)
        obtain rfl := ro_int h2
        obtain ⟨x6, hx3, hL1⟩ := bind_some hL1
        refine WL_index_own hC2 0 rfl Try.underlying22 ty3 hx3 rfl rfl rfl (fun b3 hE1 => ?_)
        have hC4 := hC2.triv (int_val (x5))
        refine WL_store_elem hC4 0 rfl ty3 hE1 hx3 rfl rfl rfl (fun w3 hC3 => ?_)
        try dsimp only [List.set] at hC3
        refine WL_nil ?_
        refine blk_normal ?_
        refine nrm_normal ?_
        refine W_reg ?_
        refine WL_move rfl rfl ?_
        refine WL_add rfl rfl rfl ?_
        refine WL_assign rfl rfl ?_
        refine WL_nil ?_
        refine nrm_sub (l' := [(0, u1), (3, (.slice (some ⟨b1, 0, none⟩) (Int.toNat (List.length a1 : Int)) (Int.toNat (List.length a1 : Int)))), (4, (.int .i64 (w64 (x3 + 1))))]) ⟨rfl, rfl, rfl, trivial⟩ ?_
        exact ⟨k1, Nat.lt_succ_self _, (List.set x2 (Int.toNat x3) x5), w64 (x3 + 1), rfl, hC3, hL1⟩
      · replace hL1 := ite_f hL1 hc1
        refine W_exit ?_
        refine nrm_exit ?_
        refine nrm_exit ?_
        refine blk_exit ?_
        have hq1 := Option.some.inj hL1
        subst hq1
        refine nrm_sub (l' := [(3, (.slice (some ⟨b1, 0, none⟩) (Int.toNat (List.length a1 : Int)) (Int.toNat (List.length a1 : Int))))]) ⟨rfl, trivial⟩ ?_
        exact ⟨x2, rfl, rfl, hC2⟩
  · rintro l2 _ w4 hs2 ⟨x4, rfl, rfl, hC5⟩
    try dsimp only at hF
    refine nrm_sub' hs2 ?_
    clear hs2
    refine W_seq_reg ?_
    refine WL_move rfl rfl ?_
    refine WL_assign rfl rfl ?_
    refine WL_nil ?_
    refine W_ret ?_
    have hq2 := Option.some.inj hF
    subst hq2
    refine fn_ret1 rfl rfl ?_
    exact ⟨_, rfl, own_res hC5 0 rfl⟩

theorem c_Q_toFact {w0 : World} (a1 : (Int × (List Int))) (u1 : Value) (g1 : RO [] w0 u1 a1.2) (rr : (Int × (List Int))) (hF : Q.toFact a1 = some rr) :
    Calls Try.prog 93 [(.agg #[(.int .i64 a1.1), u1])].toArray w0 fun e w' => ∃ v, e = .returned v ∧ Res w0 rr v w' := by
  refine calls_of_W Try.func93 rfl rfl ?_
  have hC0 := Ctx.start w0
  unfold Q.toFact at hF
  refine W_seq_reg ?_
  refine WL_box (cs := [(.int .i64 a1.1), u1]) hC0 rfl rfl rfl (fun b1 w1 hC1 hB1 => ?_)
  refine WL_alloc hC1 zero77 rfl rfl (fun b2 w2 hC2 hB2 => ?_)
  refine WL_nil ?_
  refine W_seq_reg ?_
  refine WL_alloc hC2 zero77 rfl rfl (fun b3 w3 hC3 hB3 => ?_)
  refine WL_nil ?_
  refine W_seq_reg ?_
  refine WL_field Try.underlying67 rfl rfl (fun w => ⟨_, Try.sizeOf3 w⟩) rfl rfl ?_
  refine WL_load_box hC3 2 rfl rfl Try.isAgg3 rfl rfl ?_
  refine WL_field Try.underlying77 rfl rfl (fun w => ⟨_, Try.sizeOf3 w⟩) rfl rfl ?_
  refine WL_store_box (cs' := [(.int .i64 a1.1), (.slice none 0 0)]) hC3 0 rfl rfl rfl rfl Try.sizeOf3 rfl rfl (fun w4 hC4 => ?_)
  try dsimp only [List.set] at hC4
  refine WL_nil ?_
  refine W_seq_reg ?_
  refine WL_field Try.underlying67 rfl rfl (fun w => ⟨_, Try.sizeOf22 w⟩) rfl rfl ?_
  refine WL_load_box hC4 2 rfl rfl Try.isAgg22 rfl rfl ?_
  obtain ⟨x1, hr1, hF⟩ := bind_some hF
  refine WL_call Try.call15 rfl rfl (c_Q_toIntS a1.2 u1 (g1.now hC4.keep) x1 hr1) ?_
  rintro v1 w5 ⟨hB4, F1, hv1, hn1, hb1⟩
  have hC5 := hC4.push hB4 (A := Item.own v1 x1) hv1 hn1 hb1
  refine WL_field Try.underlying77 rfl rfl (fun w => ⟨_, Try.sizeOf22 w⟩) rfl rfl ?_
  refine WL_store_box (cs' := [(.int .i64 a1.1), v1]) hC5 1 rfl rfl (ro_one (hC5.ro 0 rfl)) rfl Try.sizeOf22 rfl rfl (fun w6 hC6 => ?_)
  try dsimp only [List.set] at hC6
  refine WL_nil ?_
  refine W_seq_reg ?_
  refine WL_load_box_agg [(.int .i64 a1.1), v1] hC6 1 rfl rfl rfl Try.isAgg77 Try.sizeOf77 rfl rfl ?_
  refine WL_store_box_agg (cs' := [(.int .i64 a1.1), v1]) (new := [(.int .i64 a1.1), v1]) hC6 2 rfl rfl (by intro v hv; simp only [List.mem_cons, List.not_mem_nil, or_false] at hv; rcases hv with rfl | rfl; exact rfl; exact (ro_one (hC6.ro 0 rfl))) rfl Try.sizeOf77 rfl rfl (fun w7 hC7 => ?_)
  try dsimp only [List.set] at hC7
  refine WL_nil ?_
  refine W_ret ?_
  have hq1 := Option.some.inj hF
  subst hq1
  refine fn_retG1 rfl (rv_cell_agg (cs' := [(.int .i64 a1.1), v1]) hC7 (i := 2) rfl rfl rfl Try.isAgg77 Try.sizeOf77 rfl) ?_
  have hC8 := own_st77 a1.1 v1 x1 hC7
  exact ⟨_, rfl, own_res hC8 0 rfl⟩

theorem c_Q_toFactS {w0 : World} (a1 : (List (Int × (List Int)))) (u1 : Value) (g1 : RO [] w0 u1 a1) (rr : (List (Int × (List Int)))) (hF : Q.toFactS a1 = some rr) :
    Calls Try.prog 39 [u1].toArray w0 fun e w' => ∃ v, e = .returned v ∧ Res w0 rr v w' := by
  refine calls_of_W Try.func39 rfl rfl ?_
  have hC0 := Ctx.start w0
  unfold Q.toFactS at hF
  refine W_seq_reg ?_
  refine WL_assign rfl rfl ?_
  refine WL_nil ?_
  refine W_seq_reg ?_
  refine WL_move rfl rfl ?_
  refine WL_len Try.underlying26 g1 rfl rfl ?_
  obtain ⟨x1, hx1, hF⟩ := bind_some hF
  refine WL_makeSlice hC0 Try.underlying36 ty77 rfl zc77 zr77 hx1 rfl rfl rfl (fun b1 w1 hC1 hB1 => ?_)
  refine WL_assign rfl rfl ?_
  refine WL_nil ?_
  refine W_seq ?_
  refine W_seq_reg ?_
  refine WL_assign rfl rfl ?_
  refine WL_nil ?_
  obtain ⟨r1, hr1, hF⟩ := bind_some hF
  refine W_norm (fun l w => ∃ x4 : (List (Int × (List Int))), x4 = r1 ∧ l = [(3, (.slice (some ⟨b1, 0, none⟩) (Int.toNat (List.length a1 : Int)) (Int.toNat (List.length a1 : Int))))] ∧ Ctx [] w0 w [Item.own (.slice (some ⟨b1, 0, none⟩) (Int.toNat (List.length a1 : Int)) (Int.toNat (List.length a1 : Int))) (x4 : (List (Int × (List Int))))]) ?_ ?_
  · refine W_block ?_
    refine W.sub (l' := [(0, u1), (3, (.slice (some ⟨b1, 0, none⟩) (Int.toNat (List.length a1 : Int)) (Int.toNat (List.length a1 : Int)))), (4, (.int .i64 0))]) ?_ ⟨rfl, rfl, rfl, trivial⟩
    refine W_loop (fun k l w => ∃ x2 : (List (Int × (List Int))), ∃ x3 : Int, l = [(0, u1), (3, (.slice (some ⟨b1, 0, none⟩) (Int.toNat (List.length a1 : Int)) (Int.toNat (List.length a1 : Int)))), (4, (.int .i64 x3))] ∧ Ctx [] w0 w [Item.own (.slice (some ⟨b1, 0, none⟩) (Int.toNat (List.length a1 : Int)) (Int.toNat (List.length a1 : Int))) (x2 : (List (Int × (List Int))))] ∧ Q.toFactS_l1 a1 k x2 x3 = some r1) FUEL ⟨x1, 0, rfl, hC1, hr1⟩ ?_
    clear hr1
    rintro k1 _ w2 ⟨x2, x3, rfl, hC2, hL1⟩
    cases k1 with
    | zero => rw [Q.toFactS_l1] at hL1; cases hL1
    | succ k1 =>
      rw [Q.toFactS_l1] at hL1
      refine W_seq ?_
      refine W_seq_reg ?_
      refine WL_move rfl rfl ?_
      refine WL_move rfl rfl ?_
      refine WL_len Try.underlying26 g1 rfl rfl ?_
      refine WL_lss rfl rfl rfl ?_
      refine WL_nil ?_
      refine W_cond rfl (fun hc1 => ?_) (fun hc1 => ?_)
      · replace hL1 := ite_t hL1 hc1
        refine W_skip ?_
        refine nrm_normal ?_
        refine W_seq ?_
        refine W_block ?_
        refine W_reg ?_
        refine WL_move rfl rfl ?_
        refine WL_move rfl rfl ?_
        refine WL_move rfl rfl ?_
        refine WL_move rfl rfl ?_
        obtain ⟨x5, hx2, hL1⟩ := bind_some hL1
        refine WL_index Try.underlying26 ty67 g1 hx2 rfl rfl rfl (fun b2 o1 h1 => ?_)
        refine WL_load ty67 h1 hC2.keep rfl rfl (fun v1 h2 => ?_)
        obtain ⟨v2, rfl, h3⟩ := ro_st67 h2
        obtain ⟨x6, hr2, hL1⟩ := bind_some hL1
        refine WL_call Try.call93 rfl rfl (c_Q_toFact x5 v2 (h3.now hC2.keep) x6 hr2) ?_
        rintro v3 w3 ⟨hB3, F1, hv1, hn1, hb1⟩
        have hC3 := hC2.push hB3 (A := Item.own v3 x6) hv1 hn1 hb1
        obtain ⟨v4, rfl, hC4⟩ := st77_own hC3
        obtain ⟨x7, hx3, hL1⟩ := bind_some hL1
        refine WL_index_own hC4 1 rfl Try.underlying36 ty77 hx3 rfl rfl rfl (fun b3 hE1 => ?_)
        have hC6 := own_st77 x6.1 v4 x6.2 hC4
        refine WL_store_elem hC6 0 rfl ty77 hE1 hx3 rfl rfl rfl (fun w4 hC5 => ?_)
        try dsimp only [List.set] at hC5
        refine WL_nil ?_
        refine blk_normal ?_
        refine nrm_normal ?_
        refine W_reg ?_
        refine WL_move rfl rfl ?_
        refine WL_add rfl rfl rfl ?_
        refine WL_assign rfl rfl ?_
        refine WL_nil ?_
        refine nrm_sub (l' := [(0, u1), (3, (.slice (some ⟨b1, 0, none⟩) (Int.toNat (List.length a1 : Int)) (Int.toNat (List.length a1 : Int)))), (4, (.int .i64 (w64 (x3 + 1))))]) ⟨rfl, rfl, rfl, trivial⟩ ?_
        exact ⟨k1, Nat.lt_succ_self _, (List.set x2 (Int.toNat x3) (x6.1, x6.2)), w64 (x3 + 1), rfl, hC5, hL1⟩
      · replace hL1 := ite_f hL1 hc1
        refine W_exit ?_
        refine nrm_exit ?_
        refine nrm_exit ?_
        refine blk_exit ?_
        have hq1 := Option.some.inj hL1
        subst hq1
        refine nrm_sub (l' := [(3, (.slice (some ⟨b1, 0, none⟩) (Int.toNat (List.length a1 : Int)) (Int.toNat (List.length a1 : Int))))]) ⟨rfl, trivial⟩ ?_
        exact ⟨x2, rfl, rfl, hC2⟩
  · rintro l2 _ w5 hs2 ⟨x4, rfl, rfl, hC8⟩
    try dsimp only at hF
    refine nrm_sub' hs2 ?_
    clear hs2
    refine W_seq_reg ?_
    refine WL_move rfl rfl ?_
    refine WL_assign rfl rfl ?_
    refine WL_nil ?_
    refine W_ret ?_
    have hq2 := Option.some.inj hF
    subst hq2
    refine fn_ret1 rfl rfl ?_
    exact ⟨_, rfl, own_res hC8 0 rfl⟩

theorem c_Q_toAccess {w0 : World} (a1 : (Int × (List Int))) (u1 : Value) (g1 : RO [] w0 u1 a1.2) (rr : (Int × (List Int))) (hF : Q.toAccess a1 = some rr) :
    Calls Try.prog 61 [(.agg #[(.int .i64 a1.1), u1])].toArray w0 fun e w' => ∃ v, e = .returned v ∧ Res w0 rr v w' := by
  refine calls_of_W Try.func61 rfl rfl ?_
  have hC0 := Ctx.start w0
  unfold Q.toAccess at hF
  refine W_seq_reg ?_
  refine WL_box (cs := [(.int .i64 a1.1), u1]) hC0 rfl rfl rfl (fun b1 w1 hC1 hB1 => ?_)
  refine WL_alloc hC1 zero35 rfl rfl (fun b2 w2 hC2 hB2 => ?_)
  refine WL_nil ?_
  refine W_seq_reg ?_
  refine WL_alloc hC2 zero35 rfl rfl (fun b3 w3 hC3 hB3 => ?_)
  refine WL_nil ?_
  refine W_seq_reg ?_
  refine WL_field Try.underlying25 rfl rfl (fun w => ⟨_, Try.sizeOf3 w⟩) rfl rfl ?_
  refine WL_load_box hC3 2 rfl rfl Try.isAgg3 rfl rfl ?_
  refine WL_field Try.underlying35 rfl rfl (fun w => ⟨_, Try.sizeOf3 w⟩) rfl rfl ?_
  refine WL_store_box (cs' := [(.int .i64 a1.1), (.slice none 0 0)]) hC3 0 rfl rfl rfl rfl Try.sizeOf3 rfl rfl (fun w4 hC4 => ?_)
  try dsimp only [List.set] at hC4
  refine WL_nil ?_
  refine W_seq_reg ?_
  refine WL_field Try.underlying25 rfl rfl (fun w => ⟨_, Try.sizeOf22 w⟩) rfl rfl ?_
  refine WL_load_box hC4 2 rfl rfl Try.isAgg22 rfl rfl ?_
  obtain ⟨x1, hr1, hF⟩ := bind_some hF
  refine WL_call Try.call15 rfl rfl (c_Q_toIntS a1.2 u1 (g1.now hC4.keep) x1 hr1) ?_
  rintro v1 w5 ⟨hB4, F1, hv1, hn1, hb1⟩
  have hC5 := hC4.push hB4 (A := Item.own v1 x1) hv1 hn1 hb1
  refine WL_field Try.underlying35 rfl rfl (fun w => ⟨_, Try.sizeOf22 w⟩) rfl rfl ?_
  refine WL_store_box (cs' := [(.int .i64 a1.1), v1]) hC5 1 rfl rfl (ro_one (hC5.ro 0 rfl)) rfl Try.sizeOf22 rfl rfl (fun w6 hC6 => ?_)
  try dsimp only [List.set] at hC6
  refine WL_nil ?_
  refine W_seq_reg ?_
  refine WL_load_box_agg [(.int .i64 a1.1), v1] hC6 1 rfl rfl rfl Try.isAgg35 Try.sizeOf35 rfl rfl ?_
  refine WL_store_box_agg (cs' := [(.int .i64 a1.1), v1]) (new := [(.int .i64 a1.1), v1]) hC6 2 rfl rfl (by intro v hv; simp only [List.mem_cons, List.not_mem_nil, or_false] at hv; rcases hv with rfl | rfl; exact rfl; exact (ro_one (hC6.ro 0 rfl))) rfl Try.sizeOf35 rfl rfl (fun w7 hC7 => ?_)
  try dsimp only [List.set] at hC7
  refine WL_nil ?_
  refine W_ret ?_
  have hq1 := Option.some.inj hF
  subst hq1
  refine fn_retG1 rfl (rv_cell_agg (cs' := [(.int .i64 a1.1), v1]) hC7 (i := 2) rfl rfl rfl Try.isAgg35 Try.sizeOf35 rfl) ?_
  have hC8 := own_st35 a1.1 v1 x1 hC7
  exact ⟨_, rfl, own_res hC8 0 rfl⟩

theorem c_Q_toTold {w0 : World} (a1 : ((Int × (List Int)) × (List (Int × (List Int))))) (u1 : Value) (g1 : RO [] w0 u1 a1.1.2) (u2 : Value) (g2 : RO [] w0 u2 a1.2) (rr : ((Int × (List Int)) × (List (Int × (List Int))))) (hF : Q.toTold a1 = some rr) :
    Calls Try.prog 17 [(.agg #[(.int .i64 a1.1.1), u1, u2])].toArray w0 fun e w' => ∃ v, e = .returned v ∧ Res w0 rr v w' := by
  refine calls_of_W Try.func17 rfl rfl ?_
  have hC0 := Ctx.start w0
  unfold Q.toTold at hF
  refine W_seq_reg ?_
  refine WL_box (cs := [(.int .i64 a1.1.1), u1, u2]) hC0 rfl rfl rfl (fun b1 w1 hC1 hB1 => ?_)
  refine WL_alloc hC1 zero38 rfl rfl (fun b2 w2 hC2 hB2 => ?_)
  refine WL_nil ?_
  refine W_seq_reg ?_
  refine WL_alloc hC2 zero38 rfl rfl (fun b3 w3 hC3 hB3 => ?_)
  refine WL_nil ?_
  refine W_seq_reg ?_
  refine WL_field Try.underlying28 rfl rfl (fun w => ⟨_, Try.sizeOf25 w⟩) rfl rfl ?_
  refine WL_load_box_agg [(.int .i64 a1.1.1), u1] hC3 2 rfl rfl rfl Try.isAgg25 Try.sizeOf25 rfl rfl ?_
  obtain ⟨x1, hr1, hF⟩ := bind_some hF
  refine WL_call Try.call61 rfl rfl (c_Q_toAccess (a1.1.1, a1.1.2) u1 (g1.now hC3.keep) x1 hr1) ?_
  rintro v1 w4 ⟨hB4, F1, hv1, hn1, hb1⟩
  have hC4 := hC3.push hB4 (A := Item.own v1 x1) hv1 hn1 hb1
  obtain ⟨v2, rfl, hC5⟩ := st35_own hC4
  refine WL_field Try.underlying38 rfl rfl (fun w => ⟨_, Try.sizeOf35 w⟩) rfl rfl ?_
  refine WL_store_box_agg (cs' := [(.int .i64 x1.1), v2, (.slice none 0 0)]) (new := [(.int .i64 x1.1), v2]) hC5 1 rfl rfl (by intro v hv; simp only [List.mem_cons, List.not_mem_nil, or_false] at hv; rcases hv with rfl | rfl; exact rfl; exact (ro_one (hC5.ro 0 rfl))) rfl Try.sizeOf35 rfl rfl (fun w5 hC6 => ?_)
  try dsimp only [List.set] at hC6
  refine WL_nil ?_
  refine W_seq_reg ?_
  refine WL_field Try.underlying28 rfl rfl (fun w => ⟨_, Try.sizeOf26 w⟩) rfl rfl ?_
  refine WL_load_box hC6 3 rfl rfl Try.isAgg26 rfl rfl ?_
  obtain ⟨x2, hr2, hF⟩ := bind_some hF
  refine WL_call Try.call39 rfl rfl (c_Q_toFactS a1.2 u2 (g2.now hC6.keep) x2 hr2) ?_
  rintro v3 w6 ⟨hB5, F2, hv2, hn2, hb2⟩
  have hC7 := hC6.push hB5 (A := Item.own v3 x2) hv2 hn2 hb2
  refine WL_field Try.underlying38 rfl rfl (fun w => ⟨_, Try.sizeOf36 w⟩) rfl rfl ?_
  refine WL_store_box (cs' := [(.int .i64 x1.1), v2, v3]) hC7 2 rfl rfl (ro_one (hC7.ro 0 rfl)) rfl Try.sizeOf36 rfl rfl (fun w7 hC8 => ?_)
  try dsimp only [List.set] at hC8
  refine WL_nil ?_
  refine W_seq_reg ?_
  refine WL_load_box_agg [(.int .i64 x1.1), v2, v3] hC8 2 rfl rfl rfl Try.isAgg38 Try.sizeOf38 rfl rfl ?_
  refine WL_store_box_agg (cs' := [(.int .i64 x1.1), v2, v3]) (new := [(.int .i64 x1.1), v2, v3]) hC8 3 rfl rfl (by intro v hv; simp only [List.mem_cons, List.not_mem_nil, or_false] at hv; rcases hv with rfl | rfl | rfl; exact rfl; exact (ro_one (hC8.ro 1 rfl)); exact (ro_one (hC8.ro 0 rfl))) rfl Try.sizeOf38 rfl rfl (fun w8 hC9 => ?_)
  try dsimp only [List.set] at hC9
  refine WL_nil ?_
  refine W_ret ?_
  have hq1 := Option.some.inj hF
  subst hq1
  refine fn_retG1 rfl (rv_cell_agg (cs' := [(.int .i64 x1.1), v2, v3]) hC9 (i := 3) rfl rfl rfl Try.isAgg38 Try.sizeOf38 rfl) ?_
  have hC12 : Ctx [] w0 _ [Item.own v2 (x1.2 : (List Int)), Item.own v3 (x2 : (List (Int × (List Int)))), Item.box b3 [(.int .i64 x1.1), v2, v3], Item.box b2 [(.int .i64 x1.1), v2, v3], Item.box b1 [(.int .i64 a1.1.1), u1, u2]] := hC9.front 1 rfl
  have hC10 := own_st38 x1.1 v2 x1.2 v3 x2 hC12
  exact ⟨_, rfl, own_res hC10 0 rfl⟩

theorem c_Q_toToldS {w0 : World} (a1 : (List ((Int × (List Int)) × (List (Int × (List Int)))))) (u1 : Value) (g1 : RO [] w0 u1 a1) (rr : (List ((Int × (List Int)) × (List (Int × (List Int)))))) (hF : Q.toToldS a1 = some rr) :
    Calls Try.prog 24 [u1].toArray w0 fun e w' => ∃ v, e = .returned v ∧ Res w0 rr v w' := by
  refine calls_of_W Try.func24 rfl rfl ?_
  have hC0 := Ctx.start w0
  unfold Q.toToldS at hF
  refine W_seq_reg ?_
  refine WL_assign rfl rfl ?_
  refine WL_nil ?_
  refine W_seq_reg ?_
  refine WL_move rfl rfl ?_
  refine WL_len Try.underlying44 g1 rfl rfl ?_
  obtain ⟨x1, hx1, hF⟩ := bind_some hF
  refine WL_makeSlice hC0 Try.underlying47 ty38 rfl zc38 zr38 hx1 rfl rfl rfl (fun b1 w1 hC1 hB1 => ?_)
  refine WL_assign rfl rfl ?_
  refine WL_nil ?_
  refine W_seq ?_
  refine W_seq_reg ?_
  refine WL_assign rfl rfl ?_
  refine WL_nil ?_
  obtain ⟨r1, hr1, hF⟩ := bind_some hF
  refine W_norm (fun l w => ∃ x4 : (List ((Int × (List Int)) × (List (Int × (List Int))))), x4 = r1 ∧ l = [(3, (.slice (some ⟨b1, 0, none⟩) (Int.toNat (List.length a1 : Int)) (Int.toNat (List.length a1 : Int))))] ∧ Ctx [] w0 w [Item.own (.slice (some ⟨b1, 0, none⟩) (Int.toNat (List.length a1 : Int)) (Int.toNat (List.length a1 : Int))) (x4 : (List ((Int × (List Int)) × (List (Int × (List Int))))))]) ?_ ?_
  · refine W_block ?_
    refine W.sub (l' := [(0, u1), (3, (.slice (some ⟨b1, 0, none⟩) (Int.toNat (List.length a1 : Int)) (Int.toNat (List.length a1 : Int)))), (4, (.int .i64 0))]) ?_ ⟨rfl, rfl, rfl, trivial⟩
    refine W_loop (fun k l w => ∃ x2 : (List ((Int × (List Int)) × (List (Int × (List Int))))), ∃ x3 : Int, l = [(0, u1), (3, (.slice (some ⟨b1, 0, none⟩) (Int.toNat (List.length a1 : Int)) (Int.toNat (List.length a1 : Int)))), (4, (.int .i64 x3))] ∧ Ctx [] w0 w [Item.own (.slice (some ⟨b1, 0, none⟩) (Int.toNat (List.length a1 : Int)) (Int.toNat (List.length a1 : Int))) (x2 : (List ((Int × (List Int)) × (List (Int × (List Int))))))] ∧ Q.toToldS_l1 a1 k x2 x3 = some r1) FUEL ⟨x1, 0, rfl, hC1, hr1⟩ ?_
    clear hr1
    rintro k1 _ w2 ⟨x2, x3, rfl, hC2, hL1⟩
    cases k1 with
    | zero => rw [Q.toToldS_l1] at hL1; cases hL1
    | succ k1 =>
      rw [Q.toToldS_l1] at hL1
      refine W_seq ?_
      refine W_seq_reg ?_
      refine WL_move rfl rfl ?_
      refine WL_move rfl rfl ?_
      refine WL_len Try.underlying44 g1 rfl rfl ?_
      refine WL_lss rfl rfl rfl ?_
      refine WL_nil ?_
      refine W_cond rfl (fun hc1 => ?_) (fun hc1 => ?_)
      · replace hL1 := ite_t hL1 hc1
        refine W_skip ?_
        refine nrm_normal ?_
        refine W_seq ?_
        refine W_block ?_
        refine W_reg ?_
        refine WL_move rfl rfl ?_
        refine WL_move rfl rfl ?_
        refine WL_move rfl rfl ?_
        refine WL_move rfl rfl ?_
        obtain ⟨x5, hx2, hL1⟩ := bind_some hL1
        refine WL_index Try.underlying44 ty28 g1 hx2 rfl rfl rfl (fun b2 o1 h1 => ?_)
        refine WL_load ty28 h1 hC2.keep rfl rfl (fun v1 h2 => ?_)
        obtain ⟨v2, v3, rfl, h3, h4⟩ := ro_st28 h2
        obtain ⟨x6, hr2, hL1⟩ := bind_some hL1
        refine WL_call Try.call17 rfl rfl (c_Q_toTold x5 v2 (h3.now hC2.keep) v3 (h4.now hC2.keep) x6 hr2) ?_
        rintro v4 w3 ⟨hB3, F1, hv1, hn1, hb1⟩
        have hC3 := hC2.push hB3 (A := Item.own v4 x6) hv1 hn1 hb1
        obtain ⟨v5, v6, rfl, hC4⟩ := st38_own hC3
        obtain ⟨x7, hx3, hL1⟩ := bind_some hL1
        refine WL_index_own hC4 2 rfl Try.underlying47 ty38 hx3 rfl rfl rfl (fun b3 hE1 => ?_)
        have hC7 : Ctx [] w0 _ [Item.own v6 (x6.2 : (List (Int × (List Int)))), Item.own v5 (x6.1.2 : (List Int)), Item.own (.slice (some ⟨b1, 0, none⟩) (Int.toNat (List.length a1 : Int)) (Int.toNat (List.length a1 : Int))) (x2 : (List ((Int × (List Int)) × (List (Int × (List Int))))))] := hC4.front 1 rfl
        have hC8 : Ctx [] w0 _ [Item.own v5 (x6.1.2 : (List Int)), Item.own v6 (x6.2 : (List (Int × (List Int)))), Item.own (.slice (some ⟨b1, 0, none⟩) (Int.toNat (List.length a1 : Int)) (Int.toNat (List.length a1 : Int))) (x2 : (List ((Int × (List Int)) × (List (Int × (List Int))))))] := hC7.front 1 rfl
        have hC6 := own_st38 x6.1.1 v5 x6.1.2 v6 x6.2 hC8
        refine WL_store_elem hC6 0 rfl ty38 hE1 hx3 rfl rfl rfl (fun w4 hC5 => ?_)
        try dsimp only [List.set] at hC5
        refine WL_nil ?_
        refine blk_normal ?_
        refine nrm_normal ?_
        refine W_reg ?_
        refine WL_move rfl rfl ?_
        refine WL_add rfl rfl rfl ?_
        refine WL_assign rfl rfl ?_
        refine WL_nil ?_
        refine nrm_sub (l' := [(0, u1), (3, (.slice (some ⟨b1, 0, none⟩) (Int.toNat (List.length a1 : Int)) (Int.toNat (List.length a1 : Int)))), (4, (.int .i64 (w64 (x3 + 1))))]) ⟨rfl, rfl, rfl, trivial⟩ ?_
        exact ⟨k1, Nat.lt_succ_self _, (List.set x2 (Int.toNat x3) ((x6.1.1, x6.1.2), x6.2)), w64 (x3 + 1), rfl, hC5, hL1⟩
      · replace hL1 := ite_f hL1 hc1
        refine W_exit ?_
        refine nrm_exit ?_
        refine nrm_exit ?_
        refine blk_exit ?_
        have hq1 := Option.some.inj hL1
        subst hq1
        refine nrm_sub (l' := [(3, (.slice (some ⟨b1, 0, none⟩) (Int.toNat (List.length a1 : Int)) (Int.toNat (List.length a1 : Int))))]) ⟨rfl, trivial⟩ ?_
        exact ⟨x2, rfl, rfl, hC2⟩
  · rintro l2 _ w5 hs2 ⟨x4, rfl, rfl, hC9⟩
    try dsimp only at hF
    refine nrm_sub' hs2 ?_
    clear hs2
    refine W_seq_reg ?_
    refine WL_move rfl rfl ?_
    refine WL_assign rfl rfl ?_
    refine WL_nil ?_
    refine W_ret ?_
    have hq2 := Option.some.inj hF
    subst hq2
    refine fn_ret1 rfl rfl ?_
    exact ⟨_, rfl, own_res hC9 0 rfl⟩

theorem c_Cmp_Or_int {w0 : World} (a1 : (List Int)) (u1 : Value) (g1 : RO [] w0 u1 a1) (rr : Int) (hF : Cmp.Or_int a1 = some rr) :
    Calls Try.prog 138 [u1].toArray w0 fun e w' => ∃ v, e = .returned v ∧ Res w0 rr v w' := by
  refine calls_of_W Try.func138 rfl rfl ?_
  have hC0 := Ctx.start w0
  unfold Cmp.Or_int at hF
  refine W_seq_reg ?_
  refine WL_assign rfl rfl ?_
  refine WL_nil ?_
  refine W_seq_reg ?_
  refine WL_assign rfl rfl ?_
  refine WL_nil ?_
  refine W_seq ?_
  refine W_seq_reg ?_
  refine WL_move rfl rfl ?_
  refine WL_len Try.underlying22 g1 rfl rfl ?_
  refine WL_move rfl rfl ?_
  refine WL_nil ?_
  obtain ⟨r1, hr1, hF⟩ := bind_some hF
  refine W_norm (fun l w => .inl () = r1 ∧ l = [(3, (.int .i64 0))] ∧ Below w0.heap.size w0 w ∧ Ctx [] w0 w []) ?_ ?_
  · refine W_block ?_
    refine W.sub (l' := [(3, (.int .i64 0)), (6, u1), (7, (.int .i64 (List.length a1 : Int))), (8, (.int .i64 0))]) ?_ ⟨rfl, rfl, rfl, rfl, trivial⟩
    refine W_loop (fun k l w => ∃ x1 : Int, l = [(3, (.int .i64 0)), (6, u1), (7, (.int .i64 (List.length a1 : Int))), (8, (.int .i64 x1))] ∧ Below w0.heap.size w0 w ∧ Ctx [] w0 w [] ∧ Cmp.Or_int_l1 a1 k x1 = some r1) FUEL ⟨0, rfl, (Below.refl _ _), hC0, hr1⟩ ?_
    clear hr1
    rintro k1 _ w1 ⟨x1, rfl, hB1, hC1, hL1⟩
    cases k1 with
    | zero => rw [Cmp.Or_int_l1] at hL1; cases hL1
    | succ k1 =>
      rw [Cmp.Or_int_l1] at hL1
      refine W_seq_reg ?_
      refine WL_lss rfl rfl rfl ?_
      refine WL_nil ?_
      refine W_seq ?_
      refine W_cond rfl (fun hc1 => ?_) (fun hc1 => ?_)
      · replace hL1 := ite_t hL1 hc1
        refine W_skip ?_
        refine nrm_normal ?_
        refine W_seq ?_
        refine W_block ?_
        refine W_seq_reg ?_
        obtain ⟨x2, hx1, hL1⟩ := bind_some hL1
        refine WL_index Try.underlying22 ty3 g1 hx1 rfl rfl rfl (fun b1 o1 h1 => ?_)
        refine WL_load ty3 h1 hC1.keep rfl rfl (fun v1 h2 => ?_)
        obtain rfl := ro_int h2
        refine WL_assign rfl rfl ?_
        refine WL_nil ?_
        refine W_seq_reg ?_
        refine WL_move rfl rfl ?_
        refine WL_move rfl rfl ?_
        refine WL_neq rfl rfl rfl ?_
        refine WL_nil ?_
        refine W_cond rfl (fun hc2 => ?_) (fun hc2 => ?_)
        · replace hL1 := ite_t hL1 hc2
          refine W_seq_reg ?_
          refine WL_move rfl rfl ?_
          refine WL_assign rfl rfl ?_
          refine WL_nil ?_
          refine W_ret ?_
          refine blk_ret ?_
          refine nrm_ret ?_
          refine nrm_ret ?_
          refine blk_ret ?_
          refine nrm_ret ?_
          refine nrm_ret ?_
          have hq1 := Option.some.inj hL1
          subst hq1
          dsimp only at hF
          have hq2 := Option.some.inj hF
          subst hq2
          refine fn_ret1 rfl rfl ?_
          exact ⟨_, rfl, int_res hC1 _⟩
        · replace hL1 := ite_f hL1 hc2
          refine W_skip ?_
          refine blk_normal ?_
          refine nrm_normal ?_
          refine W_reg ?_
          refine WL_add rfl rfl rfl ?_
          refine WL_move rfl rfl ?_
          refine WL_nil ?_
          refine nrm_sub (l' := [(3, (.int .i64 0)), (6, u1), (7, (.int .i64 (List.length a1 : Int))), (8, (.int .i64 (w64 (x1 + 1))))]) ⟨rfl, rfl, rfl, rfl, trivial⟩ ?_
          exact ⟨k1, Nat.lt_succ_self _, w64 (x1 + 1), rfl, (Keep.of hB1).below, hC1, hL1⟩
      · replace hL1 := ite_f hL1 hc1
        refine W_exit ?_
        refine nrm_exit ?_
        refine nrm_exit ?_
        refine blk_exit ?_
        have hq3 := Option.some.inj hL1
        subst hq3
        refine nrm_sub (l' := [(3, (.int .i64 0))]) ⟨rfl, trivial⟩ ?_
        exact ⟨rfl, rfl, (Keep.of hB1).below, hC1⟩
  · rintro l2 _ w2 hs2 ⟨rfl, rfl, hB2, hC2⟩
    try dsimp only at hF
    refine nrm_sub' hs2 ?_
    clear hs2
    refine W_seq_reg ?_
    refine WL_move rfl rfl ?_
    refine WL_assign rfl rfl ?_
    refine WL_nil ?_
    refine W_ret ?_
    have hq4 := Option.some.inj hF
    subst hq4
    refine fn_ret1 rfl rfl ?_
    exact ⟨_, rfl, int_res hC2 _⟩

theorem c_Cmp_isNaN_int {w0 : World} (a1 : Int) (rr : Bool) (hF : Cmp.isNaN_int a1 = some rr) :
    Calls Try.prog 150 [(.int .i64 a1)].toArray w0 fun e w' => ∃ v, e = .returned v ∧ Res w0 rr v w' := by
  refine calls_of_W Try.func150 rfl rfl ?_
  have hC0 := Ctx.start w0
  unfold Cmp.isNaN_int at hF
  refine W_seq_reg ?_
  refine WL_assign rfl rfl ?_
  refine WL_nil ?_
  refine W_seq_reg ?_
  refine WL_move rfl rfl ?_
  refine WL_move rfl rfl ?_
  refine WL_neq rfl rfl rfl ?_
  refine WL_assign rfl rfl ?_
  refine WL_nil ?_
  refine W_ret ?_
  have hq1 := Option.some.inj hF
  subst hq1
  refine fn_ret1 rfl rfl ?_
  exact ⟨_, rfl, bool_res hC0 _⟩

theorem c_Cmp_Compare_int {w0 : World} (a1 : Int) (a2 : Int) (rr : Int) (hF : Cmp.Compare_int a1 a2 = some rr) :
    Calls Try.prog 139 [(.int .i64 a1), (.int .i64 a2)].toArray w0 fun e w' => ∃ v, e = .returned v ∧ Res w0 rr v w' := by
  refine calls_of_W Try.func139 rfl rfl ?_
  have hC0 := Ctx.start w0
  unfold Cmp.Compare_int at hF
  refine W_seq_reg ?_
  refine WL_assign rfl rfl ?_
  refine WL_nil ?_
  refine W_seq_reg ?_
  refine WL_move rfl rfl ?_
  obtain ⟨x1, hr1, hF⟩ := bind_some hF
  refine WL_call Try.call150 rfl rfl (c_Cmp_isNaN_int a1 x1 hr1) ?_
  intro _ w1 hv1
  obtain ⟨rfl, hB1⟩ := res_bool hv1
  have hC1 := hC0.grow hB1
  refine WL_assign rfl rfl ?_
  refine WL_nil ?_
  refine W_seq_reg ?_
  refine WL_move rfl rfl ?_
  obtain ⟨x2, hr2, hF⟩ := bind_some hF
  refine WL_call Try.call150 rfl rfl (c_Cmp_isNaN_int a2 x2 hr2) ?_
  intro _ w2 hv2
  obtain ⟨rfl, hB2⟩ := res_bool hv2
  have hC2 := hC1.grow hB2
  refine WL_assign rfl rfl ?_
  refine WL_nil ?_
  refine W_seq ?_
  refine W_seq_reg ?_
  refine WL_move rfl rfl ?_
  refine WL_nil ?_
  refine W_cond rfl (fun hc1 => ?_) (fun hc1 => ?_)
  · replace hF := ite_t hF hc1
    refine W_seq ?_
    refine W_seq_reg ?_
    refine WL_move rfl rfl ?_
    refine WL_nil ?_
    refine W_cond rfl (fun hc2 => ?_) (fun hc2 => ?_)
    · replace hF := ite_t hF hc2
      refine W_seq_reg ?_
      refine WL_assign rfl rfl ?_
      refine WL_nil ?_
      refine W_ret ?_
      refine nrm_ret ?_
      refine nrm_ret ?_
      have hq1 := Option.some.inj hF
      subst hq1
      refine fn_ret1 rfl rfl ?_
      exact ⟨_, rfl, int_res hC2 _⟩
    · replace hF := ite_f hF hc2
      refine W_skip ?_
      refine nrm_normal ?_
      refine W_seq_reg ?_
      refine WL_assign rfl rfl ?_
      refine WL_nil ?_
      refine W_ret ?_
      refine nrm_ret ?_
      have hq2 := Option.some.inj hF
      subst hq2
      refine fn_ret1 rfl rfl ?_
      exact ⟨_, rfl, int_res hC2 _⟩
  · replace hF := ite_f hF hc1
    refine W_skip ?_
    refine nrm_normal ?_
    refine W_seq ?_
    refine W_seq_reg ?_
    refine WL_move rfl rfl ?_
    refine WL_nil ?_
    refine W_cond rfl (fun hc3 => ?_) (fun hc3 => ?_)
    · replace hF := ite_t hF hc3
      refine W_seq_reg ?_
      refine WL_assign rfl rfl ?_
      refine WL_nil ?_
      refine W_ret ?_
      refine nrm_ret ?_
      have hq3 := Option.some.inj hF
      subst hq3
      refine fn_ret1 rfl rfl ?_
      exact ⟨_, rfl, int_res hC2 _⟩
    · replace hF := ite_f hF hc3
      refine W_skip ?_
      refine nrm_normal ?_
      refine W_seq ?_
      refine W_seq_reg ?_
      refine WL_move rfl rfl ?_
      refine WL_move rfl rfl ?_
      refine WL_lss rfl rfl rfl ?_
      refine WL_nil ?_
      refine W_cond rfl (fun hc4 => ?_) (fun hc4 => ?_)
      · replace hF := ite_t hF hc4
        refine W_seq_reg ?_
        refine WL_assign rfl rfl ?_
        refine WL_nil ?_
        refine W_ret ?_
        refine nrm_ret ?_
        have hq4 := Option.some.inj hF
        subst hq4
        refine fn_ret1 rfl rfl ?_
        exact ⟨_, rfl, int_res hC2 _⟩
      · replace hF := ite_f hF hc4
        refine W_skip ?_
        refine nrm_normal ?_
        refine W_seq ?_
        refine W_seq_reg ?_
        refine WL_move rfl rfl ?_
        refine WL_move rfl rfl ?_
        refine WL_gtr rfl rfl rfl ?_
        refine WL_nil ?_
        refine W_cond rfl (fun hc5 => ?_) (fun hc5 => ?_)
        · replace hF := ite_t hF hc5
          refine W_seq_reg ?_
          refine WL_assign rfl rfl ?_
          refine WL_nil ?_
          refine W_ret ?_
          refine nrm_ret ?_
          have hq5 := Option.some.inj hF
          subst hq5
          refine fn_ret1 rfl rfl ?_
          exact ⟨_, rfl, int_res hC2 _⟩
        · replace hF := ite_f hF hc5
          refine W_skip ?_
          refine nrm_normal ?_
          refine W_seq_reg ?_
          refine WL_assign rfl rfl ?_
          refine WL_nil ?_
          refine W_ret ?_
          have hq6 := Option.some.inj hF
          subst hq6
          refine fn_ret1 rfl rfl ?_
          exact ⟨_, rfl, int_res hC2 _⟩

theorem c_Slices_Compare_Lint_int {w0 : World} (a1 : (List Int)) (u1 : Value) (g1 : RO [] w0 u1 a1) (a2 : (List Int)) (u2 : Value) (g2 : RO [] w0 u2 a2) (rr : Int) (hF : Slices.Compare_Lint_int a1 a2 = some rr) :
    Calls Try.prog 140 [u1, u2].toArray w0 fun e w' => ∃ v, e = .returned v ∧ Res w0 rr v w' := by
  refine calls_of_W Try.func140 rfl rfl ?_
  have hC0 := Ctx.start w0
  unfold Slices.Compare_Lint_int at hF
  refine W_seq_reg ?_
  refine WL_assign rfl rfl ?_
  refine WL_nil ?_
  refine W_seq ?_
  refine W_seq_reg ?_
  refine WL_move rfl rfl ?_
  refine WL_len Try.underlying22 g1 rfl rfl ?_
  refine WL_move rfl rfl ?_
  refine WL_nil ?_
  obtain ⟨r1, hr1, hF⟩ := bind_some hF
  refine W_norm (fun l w => .inl () = r1 ∧ l = [(0, u1), (1, u2)] ∧ Below w0.heap.size w0 w ∧ Ctx [] w0 w []) ?_ ?_
  · refine W_block ?_
    refine W.sub (l' := [(0, u1), (1, u2), (9, u1), (10, (.int .i64 (List.length a1 : Int))), (11, (.int .i64 0))]) ?_ ⟨rfl, rfl, rfl, rfl, rfl, trivial⟩
    refine W_loop (fun k l w => ∃ x1 : Int, l = [(0, u1), (1, u2), (9, u1), (10, (.int .i64 (List.length a1 : Int))), (11, (.int .i64 x1))] ∧ Below w0.heap.size w0 w ∧ Ctx [] w0 w [] ∧ Slices.Compare_Lint_int_l1 a1 a2 k x1 = some r1) FUEL ⟨0, rfl, (Below.refl _ _), hC0, hr1⟩ ?_
    clear hr1
    rintro k1 _ w1 ⟨x1, rfl, hB1, hC1, hL1⟩
    cases k1 with
    | zero => rw [Slices.Compare_Lint_int_l1] at hL1; cases hL1
    | succ k1 =>
      rw [Slices.Compare_Lint_int_l1] at hL1
      refine W_seq_reg ?_
      refine WL_lss rfl rfl rfl ?_
      refine WL_nil ?_
      refine W_seq ?_
      refine W_cond rfl (fun hc1 => ?_) (fun hc1 => ?_)
      · replace hL1 := ite_t hL1 hc1
        refine W_skip ?_
        refine nrm_normal ?_
        refine W_seq ?_
        refine W_block ?_
        refine W_seq_reg ?_
        refine WL_move rfl rfl ?_
        obtain ⟨x2, hx1, hL1⟩ := bind_some hL1
        refine WL_index Try.underlying22 ty3 g1 hx1 rfl rfl rfl (fun b1 o1 h1 => ?_)
        refine WL_load ty3 h1 hC1.keep rfl rfl (fun v1 h2 => ?_)
        obtain rfl := ro_int h2
        refine WL_assign rfl rfl ?_
        refine WL_assign rfl rfl ?_
        refine WL_nil ?_
        refine W_seq ?_
        refine W_seq_reg ?_
        refine WL_move rfl rfl ?_
        refine WL_move rfl rfl ?_
        refine WL_len Try.underlying22 g2 rfl rfl ?_
        refine WL_geq rfl rfl rfl ?_
        refine WL_nil ?_
        refine W_cond rfl (fun hc2 => ?_) (fun hc2 => ?_)
        · replace hL1 := ite_t hL1 hc2
          refine W_seq_reg ?_
          refine WL_assign rfl rfl ?_
          refine WL_nil ?_
          refine W_ret ?_
          refine nrm_ret ?_
          refine blk_ret ?_
          refine nrm_ret ?_
          refine nrm_ret ?_
          refine blk_ret ?_
          refine nrm_ret ?_
          refine nrm_ret ?_
          have hq1 := Option.some.inj hL1
          subst hq1
          dsimp only at hF
          have hq2 := Option.some.inj hF
          subst hq2
          refine fn_ret1 rfl rfl ?_
          exact ⟨_, rfl, int_res hC1 _⟩
        · replace hL1 := ite_f hL1 hc2
          refine W_skip ?_
          refine nrm_normal ?_
          refine W_seq_reg ?_
          refine WL_move rfl rfl ?_
          refine WL_move rfl rfl ?_
          obtain ⟨x3, hx2, hL1⟩ := bind_some hL1
          refine WL_index Try.underlying22 ty3 g2 hx2 rfl rfl rfl (fun b2 o2 h3 => ?_)
          refine WL_load ty3 h3 hC1.keep rfl rfl (fun v2 h4 => ?_)
          obtain rfl := ro_int h4
          refine WL_assign rfl rfl ?_
          refine WL_nil ?_
          refine W_seq_reg ?_
          refine WL_move rfl rfl ?_
          refine WL_move rfl rfl ?_
          obtain ⟨x4, hr2, hL1⟩ := bind_some hL1
          refine WL_call Try.call139 rfl rfl (c_Cmp_Compare_int x2 x3 x4 hr2) ?_
          intro _ w2 hv1
          obtain ⟨rfl, hB2⟩ := res_int hv1
          have hC2 := hC1.grow hB2
          refine WL_assign rfl rfl ?_
          refine WL_nil ?_
          refine W_seq_reg ?_
          refine WL_move rfl rfl ?_
          refine WL_neq rfl rfl rfl ?_
          refine WL_nil ?_
          refine W_cond rfl (fun hc3 => ?_) (fun hc3 => ?_)
          · replace hL1 := ite_t hL1 hc3
            refine W_seq_reg ?_
            refine WL_move rfl rfl ?_
            refine WL_assign rfl rfl ?_
            refine WL_nil ?_
            refine W_ret ?_
            refine blk_ret ?_
            refine nrm_ret ?_
            refine nrm_ret ?_
            refine blk_ret ?_
            refine nrm_ret ?_
            refine nrm_ret ?_
            have hq3 := Option.some.inj hL1
            subst hq3
            dsimp only at hF
            have hq4 := Option.some.inj hF
            subst hq4
            refine fn_ret1 rfl rfl ?_
            exact ⟨_, rfl, int_res hC2 _⟩
          · replace hL1 := ite_f hL1 hc3
            refine W_skip ?_
            refine blk_normal ?_
            refine nrm_normal ?_
            refine W_reg ?_
            refine WL_add rfl rfl rfl ?_
            refine WL_move rfl rfl ?_
            refine WL_nil ?_
            refine nrm_sub (l' := [(0, u1), (1, u2), (9, u1), (10, (.int .i64 (List.length a1 : Int))), (11, (.int .i64 (w64 (x1 + 1))))]) ⟨rfl, rfl, rfl, rfl, rfl, trivial⟩ ?_
            exact ⟨k1, Nat.lt_succ_self _, w64 (x1 + 1), rfl, ((Keep.of hB1).then hB2).below, hC2, hL1⟩
      · replace hL1 := ite_f hL1 hc1
        refine W_exit ?_
        refine nrm_exit ?_
        refine nrm_exit ?_
        refine blk_exit ?_
        have hq5 := Option.some.inj hL1
        subst hq5
        refine nrm_sub (l' := [(0, u1), (1, u2)]) ⟨rfl, rfl, trivial⟩ ?_
        exact ⟨rfl, rfl, (Keep.of hB1).below, hC1⟩
  · rintro l2 _ w3 hs2 ⟨rfl, rfl, hB3, hC3⟩
    try dsimp only at hF
    refine nrm_sub' hs2 ?_
    clear hs2
    refine W_seq ?_
    refine W_seq_reg ?_
    refine WL_move rfl rfl ?_
    refine WL_len Try.underlying22 g1 rfl rfl ?_
    refine WL_move rfl rfl ?_
    refine WL_len Try.underlying22 g2 rfl rfl ?_
    refine WL_lss rfl rfl rfl ?_
    refine WL_nil ?_
    refine W_cond rfl (fun hc4 => ?_) (fun hc4 => ?_)
    · replace hF := ite_t hF hc4
      refine W_seq_reg ?_
      refine WL_assign rfl rfl ?_
      refine WL_nil ?_
      refine W_ret ?_
      refine nrm_ret ?_
      have hq6 := Option.some.inj hF
      subst hq6
      refine fn_ret1 rfl rfl ?_
      exact ⟨_, rfl, int_res hC3 _⟩
    · replace hF := ite_f hF hc4
      refine W_skip ?_
      refine nrm_normal ?_
      refine W_seq_reg ?_
      refine WL_assign rfl rfl ?_
      refine WL_nil ?_
      refine W_ret ?_
      have hq7 := Option.some.inj hF
      subst hq7
      refine fn_ret1 rfl rfl ?_
      exact ⟨_, rfl, int_res hC3 _⟩

theorem c_M_CompareFacts {w0 : World} (a1 : (Int × (List Int))) (u1 : Value) (g1 : RO [] w0 u1 a1.2) (a2 : (Int × (List Int))) (u2 : Value) (g2 : RO [] w0 u2 a2.2) (rr : Int) (hF : M.CompareFacts a1 a2 = some rr) :
    Calls Try.prog 109 [(.agg #[(.int .i64 a1.1), u1]), (.agg #[(.int .i64 a2.1), u2])].toArray w0 fun e w' => ∃ v, e = .returned v ∧ Res w0 rr v w' := by
  refine calls_of_W Try.func109 rfl rfl ?_
  have hC0 := Ctx.start w0
  unfold M.CompareFacts at hF
  refine W_seq_reg ?_
  refine WL_box (cs := [(.int .i64 a1.1), u1]) hC0 rfl rfl rfl (fun b1 w1 hC1 hB1 => ?_)
  refine WL_box (cs := [(.int .i64 a2.1), u2]) hC1 rfl rfl rfl (fun b2 w2 hC2 hB2 => ?_)
  refine WL_assign rfl rfl ?_
  refine WL_nil ?_
  refine W_seq ?_
  refine W_drawn 13 rfl hmix (fun w3 hB3 => ?_)
  have hC3 := hC2.grow hB3
  refine WA_take 0 rfl (by kernel_rfl) (by kernel_rfl) (by kernel_rfl) rfl (fl_field Try.underlying77 rfl rfl (fun w => ⟨_, Try.sizeOf3 w⟩) rfl) ?_
  refine WL_field Try.underlying77 rfl rfl (fun w => ⟨_, Try.sizeOf3 w⟩) rfl rfl ?_
  refine WL_nil ?_
  refine WA_take 2 rfl (by kernel_rfl) (by kernel_rfl) (by kernel_rfl) rfl (fl_field Try.underlying77 rfl rfl (fun w => ⟨_, Try.sizeOf3 w⟩) rfl) ?_
  refine WL_field Try.underlying77 rfl rfl (fun w => ⟨_, Try.sizeOf3 w⟩) rfl rfl ?_
  refine WL_nil ?_
  refine WA_take 5 rfl (by kernel_rfl) (by kernel_rfl) (by kernel_rfl) rfl (fl_field Try.underlying77 rfl rfl (fun w => ⟨_, Try.sizeOf22 w⟩) rfl) ?_
  refine WL_field Try.underlying77 rfl rfl (fun w => ⟨_, Try.sizeOf22 w⟩) rfl rfl ?_
  refine WL_nil ?_
  refine WA_take 7 rfl (by kernel_rfl) (by kernel_rfl) (by kernel_rfl) rfl (fl_field Try.underlying77 rfl rfl (fun w => ⟨_, Try.sizeOf22 w⟩) rfl) ?_
  refine WL_field Try.underlying77 rfl rfl (fun w => ⟨_, Try.sizeOf22 w⟩) rfl rfl ?_
  refine WL_nil ?_
  obtain ⟨x1, hr1, hF⟩ := bind_some hF
  refine WA.sub (l' := [(0, (.agg #[(.int .i64 a1.1), u1])), (1, (.agg #[(.int .i64 a2.1), u2])), (2, (ptr b1 0)), (3, (ptr b2 0)), (4, (.int .i64 0)), (5, (ptr b1 0)), (7, (ptr b2 0)), (10, (ptr b1 1)), (12, (ptr b2 1))]) ?_ ⟨rfl, rfl, rfl, rfl, rfl, rfl, rfl, rfl, rfl, trivial⟩
  refine WA_postsE [⟨1, [], fun vs => PW.val (.int .i64 a1.1), []⟩, ⟨3, [], fun vs => PW.val (.int .i64 a2.1), []⟩, ⟨4, [], fun vs => PW.val (.int .i64 x1), []⟩, ⟨6, [], fun vs => PW.val u1, []⟩, ⟨8, [], fun vs => PW.val u2, []⟩] [[], [], [1, 3], [], []] 4 rfl (by kernel_rfl) (by kernel_rfl) rfl ?_ ?_
  · refine StepsE_cons rfl ?_ ?_
    · intro w5 hB5
      refine DepsE_nil ?_
      refine ⟨_, rfl, ?_⟩
      refine WL_load_box (hC3.grow hB5) 1 rfl rfl Try.isAgg3 rfl rfl ?_
      refine WL_nil ?_
      exact FinE_val (Below.refl _ _) rfl rfl ⟨rfl, rfl⟩
    refine StepsE_cons rfl ?_ ?_
    · intro w5 hB5
      refine DepsE_nil ?_
      refine ⟨_, rfl, ?_⟩
      refine WL_load_box (hC3.grow hB5) 0 rfl rfl Try.isAgg3 rfl rfl ?_
      refine WL_nil ?_
      exact FinE_val (Below.refl _ _) rfl rfl ⟨rfl, rfl⟩
    refine StepsE_cons rfl ?_ ?_
    · intro w5 hB5
      refine DepsE_cons rfl rfl rfl ?_
      rintro _ _ ⟨rfl, rfl⟩ _
      refine DepsE_cons rfl rfl rfl ?_
      rintro _ _ ⟨rfl, rfl⟩ _
      refine DepsE_nil ?_
      refine ⟨_, rfl, ?_⟩
      refine WL_call Try.call139 rfl rfl (c_Cmp_Compare_int a1.1 a2.1 x1 hr1) ?_
      intro _ w4 hv1
      obtain ⟨rfl, hB4⟩ := res_int hv1
      refine WL_nil ?_
      exact FinE_val hB4 rfl rfl ⟨rfl, rfl⟩
    refine StepsE_cons rfl ?_ ?_
    · intro w5 hB5
      refine DepsE_nil ?_
      refine ⟨_, rfl, ?_⟩
      refine WL_load_box (hC3.grow hB5) 1 rfl rfl Try.isAgg22 rfl rfl ?_
      refine WL_nil ?_
      exact FinE_val (Below.refl _ _) rfl rfl ⟨rfl, rfl⟩
    refine StepsE_cons rfl ?_ ?_
    · intro w5 hB5
      refine DepsE_nil ?_
      refine ⟨_, rfl, ?_⟩
      refine WL_load_box (hC3.grow hB5) 0 rfl rfl Try.isAgg22 rfl rfl ?_
      refine WL_nil ?_
      exact FinE_val (Below.refl _ _) rfl rfl ⟨rfl, rfl⟩
    exact StepsE_nil
  · intro w6 hB6
    refine AllE_cons rfl rfl rfl ?_
    rintro _ _ ⟨rfl, rfl⟩
    refine AllE_cons rfl rfl rfl ?_
    rintro _ _ ⟨rfl, rfl⟩
    refine AllE_cons rfl rfl rfl ?_
    rintro _ _ ⟨rfl, rfl⟩
    refine AllE_cons rfl rfl rfl ?_
    rintro _ _ ⟨rfl, rfl⟩
    refine AllE_cons rfl rfl rfl ?_
    rintro _ _ ⟨rfl, rfl⟩
    refine AllE_nil ?_
    intro hn1 hb1
    have hC4 := hC3.grow hB6
    obtain ⟨x2, hr2, hF⟩ := bind_some hF
    refine WA_one 9 (by kernel_rfl) rfl ?_
    refine WL_call Try.call140 rfl rfl (c_Slices_Compare_Lint_int a1.2 u1 (g1.now hC4.keep) a2.2 u2 (g2.now hC4.keep) x2 hr2) ?_
    intro _ w7 hv2
    obtain ⟨rfl, hB7⟩ := res_int hv2
    have hC5 := hC4.grow hB7
    refine WL_nil ?_
    refine WA_one 10 (by kernel_rfl) rfl ?_
    refine WL_buildSlice (vs := [(.int .i64 x1), (.int .i64 x2)]) hC5 Try.underlying22 ty3 rfl rfl rfl rfl (by intro v hv; simp only [List.mem_cons, List.not_mem_nil, or_false] at hv; rcases hv with rfl | rfl <;> rfl) rfl rfl (fun b3 w8 hC6 hB8 => ?_)
    have hC7 := hC6.row0 (α := Int)
    have hC8 := hC7.triv (int_val (x2))
    have hC9 := hC8.row1
    have hC10 := hC9.triv (int_val (x1))
    have hC11 := hC10.row1
    have hC12 := hC11.front 1 rfl
    dsimp only [List.eraseIdx, List.cons_append, List.nil_append, List.append_nil] at hC12
    have hC13 : Ctx [] w0 w8 (Item.own (.slice (some ⟨b3, 0, none⟩) 2 2) ([x1, x2] : List Int) :: [Item.box b2 [(.int .i64 a2.1), u2], Item.box b1 [(.int .i64 a1.1), u1]]) := hC12.rowOwn (by simp [maxLen])
    refine WL_nil ?_
    obtain ⟨x3, hr3, hF⟩ := bind_some hF
    refine WA_one 11 (by kernel_rfl) rfl ?_
    refine WL_call Try.call138 rfl rfl (c_Cmp_Or_int ([x1, x2]) (.slice (some ⟨b3, 0, none⟩) 2 2) ((hC13.ro 0 rfl).now (Keep.refl _ _)) x3 hr3) ?_
    intro _ w9 hv3
    obtain ⟨rfl, hB9⟩ := res_int hv3
    have hC14 := hC13.grow hB9
    refine WL_nil ?_
    refine WA_take 12 rfl (by kernel_rfl) (by kernel_rfl) (by kernel_rfl) rfl (fl_assign rfl) ?_
    refine WL_assign rfl rfl ?_
    refine WL_nil ?_
    refine WA_done (by kernel_rfl) ?_
    refine nrm_normal ?_
    refine W_ret ?_
    have hq1 := Option.some.inj hF
    subst hq1
    refine fn_ret1 rfl rfl ?_
    exact ⟨_, rfl, int_res hC14 _⟩

theorem c_M_HasFact_c1 {w0 : World} (a1 : (Int × (List Int))) (u1 : Value) (g1 : RO [] w0 u1 a1.2) (pb1 : Nat) (ax1 : (Int × (List Int))) (g2 : ROAt [] w0 pb1 0 ax1) (rr : Bool) (hF : M.HasFact_c1 a1 ax1 = some rr) :
    Calls Try.prog 134 [(.agg #[(.int .i64 a1.1), u1]), (ptr pb1 0)].toArray w0 fun e w' => ∃ v, e = .returned v ∧ Res w0 rr v w' := by
  refine calls_of_W Try.func134 rfl rfl ?_
  have hC0 := Ctx.start w0
  unfold M.HasFact_c1 at hF
  refine W_seq_reg ?_
  refine WL_box (cs := [(.int .i64 a1.1), u1]) hC0 rfl rfl rfl (fun b1 w1 hC1 hB1 => ?_)
  refine WL_assign rfl rfl ?_
  refine WL_nil ?_
  refine W_seq_reg ?_
  refine WL_load_box_agg [(.int .i64 a1.1), u1] hC1 0 rfl rfl rfl Try.isAgg77 Try.sizeOf77 rfl rfl ?_
  refine WL_load ty77 g2 hC1.keep rfl rfl (fun v1 h1 => ?_)
  obtain ⟨v2, rfl, h2⟩ := ro_st77 h1
  obtain ⟨x1, hr1, hF⟩ := bind_some hF
  refine WL_call Try.call109 rfl rfl (c_M_CompareFacts (a1.1, a1.2) u1 (g1.now hC1.keep) ax1 v2 (h2.now hC1.keep) x1 hr1) ?_
  intro _ w2 hv1
  obtain ⟨rfl, hB2⟩ := res_int hv1
  have hC2 := hC1.grow hB2
  refine WL_eql rfl rfl rfl ?_
  refine WL_assign rfl rfl ?_
  refine WL_nil ?_
  refine W_ret ?_
  have hq1 := Option.some.inj hF
  subst hq1
  refine fn_ret1 rfl rfl ?_
  exact ⟨_, rfl, bool_res hC2 _⟩

theorem c_Slices_IndexFunc_Limpl_Fact_impl_Fact_M_HasFact_c1 {w0 : World} (a1 : (List (Int × (List Int)))) (u1 : Value) (g1 : RO [] w0 u1 a1) (pb1 : Nat) (ax1 : (Int × (List Int))) (g2 : ROAt [] w0 pb1 0 ax1) (rr : Int) (hF : Slices.IndexFunc_Limpl_Fact_impl_Fact_M_HasFact_c1 a1 ax1 = some rr) :
    Calls Try.prog 121 [u1, (.func (.func 134) #[] #[(ptr pb1 0)])].toArray w0 fun e w' => ∃ v, e = .returned v ∧ Res w0 rr v w' := by
  refine calls_of_W Try.func121 rfl rfl ?_
  have hC0 := Ctx.start w0
  unfold Slices.IndexFunc_Limpl_Fact_impl_Fact_M_HasFact_c1 at hF
  refine W_seq_reg ?_
  refine WL_assign rfl rfl ?_
  refine WL_nil ?_
  refine W_seq ?_
  refine W_seq_reg ?_
  refine WL_move rfl rfl ?_
  refine WL_len Try.underlying36 g1 rfl rfl ?_
  refine WL_move rfl rfl ?_
  refine WL_nil ?_
  obtain ⟨r1, hr1, hF⟩ := bind_some hF
  refine W_norm (fun l w => .inl () = r1 ∧ l = [] ∧ Below w0.heap.size w0 w ∧ Ctx [] w0 w []) ?_ ?_
  · refine W_block ?_
    refine W.sub (l' := [(0, u1), (1, (.func (.func 134) #[] #[(ptr pb1 0)])), (7, (.int .i64 (List.length a1 : Int))), (8, (.int .i64 0))]) ?_ ⟨rfl, rfl, rfl, rfl, trivial⟩
    refine W_loop (fun k l w => ∃ x1 : Int, l = [(0, u1), (1, (.func (.func 134) #[] #[(ptr pb1 0)])), (7, (.int .i64 (List.length a1 : Int))), (8, (.int .i64 x1))] ∧ Below w0.heap.size w0 w ∧ Ctx [] w0 w [] ∧ Slices.IndexFunc_Limpl_Fact_impl_Fact_M_HasFact_c1_l1 a1 ax1 k x1 = some r1) FUEL ⟨0, rfl, (Below.refl _ _), hC0, hr1⟩ ?_
    clear hr1
    rintro k1 _ w1 ⟨x1, rfl, hB1, hC1, hL1⟩
    cases k1 with
    | zero => rw [Slices.IndexFunc_Limpl_Fact_impl_Fact_M_HasFact_c1_l1] at hL1; cases hL1
    | succ k1 =>
      rw [Slices.IndexFunc_Limpl_Fact_impl_Fact_M_HasFact_c1_l1] at hL1
      refine W_seq_reg ?_
      refine WL_lss rfl rfl rfl ?_
      refine WL_nil ?_
      refine W_seq ?_
      refine W_cond rfl (fun hc1 => ?_) (fun hc1 => ?_)
      · replace hL1 := ite_t hL1 hc1
        refine W_skip ?_
        refine nrm_normal ?_
        refine W_seq ?_
        refine W_block ?_
        refine W_seq_reg ?_
        refine WL_move rfl rfl ?_
        refine WL_assign rfl rfl ?_
        refine WL_nil ?_
        refine W_seq_reg ?_
        refine WL_move rfl rfl ?_
        refine WL_move rfl rfl ?_
        refine WL_move rfl rfl ?_
        obtain ⟨x2, hx1, hL1⟩ := bind_some hL1
        refine WL_index Try.underlying36 ty77 g1 hx1 rfl rfl rfl (fun b1 o1 h1 => ?_)
        refine WL_load ty77 h1 hC1.keep rfl rfl (fun v1 h2 => ?_)
        obtain ⟨v2, rfl, h3⟩ := ro_st77 h2
        obtain ⟨x3, hr2, hL1⟩ := bind_some hL1
        refine WL_callv (cap := [(ptr pb1 0)]) Try.call134 rfl rfl rfl (c_M_HasFact_c1 x2 v2 (h3.now hC1.keep) pb1 ax1 (g2.now hC1.keep) x3 hr2) ?_
        intro _ w2 hv1
        obtain ⟨rfl, hB2⟩ := res_bool hv1
        have hC2 := hC1.grow hB2
        refine WL_nil ?_
        refine W_cond rfl (fun hc2 => ?_) (fun hc2 => ?_)
        · replace hL1 := ite_t hL1 hc2
          refine W_seq_reg ?_
          refine WL_move rfl rfl ?_
          refine WL_assign rfl rfl ?_
          refine WL_nil ?_
          refine W_ret ?_
          refine blk_ret ?_
          refine nrm_ret ?_
          refine nrm_ret ?_
          refine blk_ret ?_
          refine nrm_ret ?_
          refine nrm_ret ?_
          have hq1 := Option.some.inj hL1
          subst hq1
          dsimp only at hF
          have hq2 := Option.some.inj hF
          subst hq2
          refine fn_ret1 rfl rfl ?_
          exact ⟨_, rfl, int_res hC2 _⟩
        · replace hL1 := ite_f hL1 hc2
          refine W_skip ?_
          refine blk_normal ?_
          refine nrm_normal ?_
          refine W_reg ?_
          refine WL_add rfl rfl rfl ?_
          refine WL_move rfl rfl ?_
          refine WL_nil ?_
          refine nrm_sub (l' := [(0, u1), (1, (.func (.func 134) #[] #[(ptr pb1 0)])), (7, (.int .i64 (List.length a1 : Int))), (8, (.int .i64 (w64 (x1 + 1))))]) ⟨rfl, rfl, rfl, rfl, trivial⟩ ?_
          exact ⟨k1, Nat.lt_succ_self _, w64 (x1 + 1), rfl, ((Keep.of hB1).then hB2).below, hC2, hL1⟩
      · replace hL1 := ite_f hL1 hc1
        refine W_exit ?_
        refine nrm_exit ?_
        refine nrm_exit ?_
        refine blk_exit ?_
        have hq3 := Option.some.inj hL1
        subst hq3
        refine nrm_sub (l' := []) trivial ?_
        exact ⟨rfl, rfl, (Keep.of hB1).below, hC1⟩
  · rintro l2 _ w3 hs2 ⟨rfl, rfl, hB3, hC3⟩
    try dsimp only at hF
    refine nrm_sub' hs2 ?_
    clear hs2
    refine W_seq_reg ?_
    refine WL_assign rfl rfl ?_
    refine WL_nil ?_
    refine W_ret ?_
    have hq4 := Option.some.inj hF
    subst hq4
    refine fn_ret1 rfl rfl ?_
    exact ⟨_, rfl, int_res hC3 _⟩

theorem c_Slices_ContainsFunc_Limpl_Fact_impl_Fact_M_HasFact_c1 {w0 : World} (a1 : (List (Int × (List Int)))) (u1 : Value) (g1 : RO [] w0 u1 a1) (pb1 : Nat) (ax1 : (Int × (List Int))) (g2 : ROAt [] w0 pb1 0 ax1) (rr : Bool) (hF : Slices.ContainsFunc_Limpl_Fact_impl_Fact_M_HasFact_c1 a1 ax1 = some rr) :
    Calls Try.prog 81 [u1, (.func (.func 134) #[] #[(ptr pb1 0)])].toArray w0 fun e w' => ∃ v, e = .returned v ∧ Res w0 rr v w' := by
  refine calls_of_W Try.func81 rfl rfl ?_
  have hC0 := Ctx.start w0
  unfold Slices.ContainsFunc_Limpl_Fact_impl_Fact_M_HasFact_c1 at hF
  refine W_seq_reg ?_
  refine WL_assign rfl rfl ?_
  refine WL_nil ?_
  refine W_seq_reg ?_
  refine WL_move rfl rfl ?_
  refine WL_move rfl rfl ?_
  obtain ⟨x1, hr1, hF⟩ := bind_some hF
  refine WL_call Try.call121 rfl rfl (c_Slices_IndexFunc_Limpl_Fact_impl_Fact_M_HasFact_c1 a1 u1 (g1.now hC0.keep) pb1 ax1 (g2.now hC0.keep) x1 hr1) ?_
  intro _ w1 hv1
  obtain ⟨rfl, hB1⟩ := res_int hv1
  have hC1 := hC0.grow hB1
  refine WL_geq rfl rfl rfl ?_
  refine WL_assign rfl rfl ?_
  refine WL_nil ?_
  refine W_ret ?_
  have hq1 := Option.some.inj hF
  subst hq1
  refine fn_ret1 rfl rfl ?_
  exact ⟨_, rfl, bool_res hC1 _⟩

theorem c_M_HasFact {w0 : World} (a1 : (List (Int × (List Int)))) (u1 : Value) (g1 : RO [] w0 u1 a1) (a2 : (Int × (List Int))) (u2 : Value) (g2 : RO [] w0 u2 a2.2) (rr : Bool) (hF : M.HasFact a1 a2 = some rr) :
    Calls Try.prog 104 [u1, (.agg #[(.int .i64 a2.1), u2])].toArray w0 fun e w' => ∃ v, e = .returned v ∧ Res w0 rr v w' := by
  refine calls_of_W Try.func104 rfl rfl ?_
  have hC0 := Ctx.start w0
  unfold M.HasFact at hF
  refine W_seq_reg ?_
  refine WL_box (cs := [(.int .i64 a2.1), u2]) hC0 rfl rfl rfl (fun b1 w1 hC1 hB1 => ?_)
  refine WL_assign rfl rfl ?_
  refine WL_nil ?_
  refine W_seq_reg ?_
  refine WL_move rfl rfl ?_
  refine WL_makeFunc rfl rfl ?_
  obtain ⟨x1, hr1, hF⟩ := bind_some hF
  refine WL_call Try.call81 rfl rfl (c_Slices_ContainsFunc_Limpl_Fact_impl_Fact_M_HasFact_c1 a1 u1 (g1.now hC1.keep) b1 (a2.1, a2.2) (hC1.boxAt 0 rfl (repw_pair repw_int (repw_slice (g2.now hC1.keep)))) x1 hr1) ?_
  intro _ w2 hv1
  obtain ⟨rfl, hB2⟩ := res_bool hv1
  have hC2 := hC1.grow hB2
  refine WL_assign rfl rfl ?_
  refine WL_nil ?_
  refine W_ret ?_
  have hq1 := Option.some.inj hF
  subst hq1
  refine fn_ret1 rfl rfl ?_
  exact ⟨_, rfl, bool_res hC2 _⟩

theorem c_M_added_c1 {w0 : World} (a1 : (Int × (List Int))) (u1 : Value) (g1 : RO [] w0 u1 a1.2) (pb1 : Nat) (ax1 : (Int × (List Int))) (g2 : ROAt [] w0 pb1 0 ax1) (rr : Bool) (hF : M.added_c1 a1 ax1 = some rr) :
    Calls Try.prog 122 [(.agg #[(.int .i64 a1.1), u1]), (ptr pb1 0)].toArray w0 fun e w' => ∃ v, e = .returned v ∧ Res w0 rr v w' := by
  refine calls_of_W Try.func122 rfl rfl ?_
  have hC0 := Ctx.start w0
  unfold M.added_c1 at hF
  refine W_seq_reg ?_
  refine WL_box (cs := [(.int .i64 a1.1), u1]) hC0 rfl rfl rfl (fun b1 w1 hC1 hB1 => ?_)
  refine WL_assign rfl rfl ?_
  refine WL_nil ?_
  refine W_seq_reg ?_
  refine WL_load_box_agg [(.int .i64 a1.1), u1] hC1 0 rfl rfl rfl Try.isAgg77 Try.sizeOf77 rfl rfl ?_
  refine WL_load ty77 g2 hC1.keep rfl rfl (fun v1 h1 => ?_)
  obtain ⟨v2, rfl, h2⟩ := ro_st77 h1
  obtain ⟨x1, hr1, hF⟩ := bind_some hF
  refine WL_call Try.call109 rfl rfl (c_M_CompareFacts (a1.1, a1.2) u1 (g1.now hC1.keep) ax1 v2 (h2.now hC1.keep) x1 hr1) ?_
  intro _ w2 hv1
  obtain ⟨rfl, hB2⟩ := res_int hv1
  have hC2 := hC1.grow hB2
  refine WL_gtr rfl rfl rfl ?_
  refine WL_assign rfl rfl ?_
  refine WL_nil ?_
  refine W_ret ?_
  have hq1 := Option.some.inj hF
  subst hq1
  refine fn_ret1 rfl rfl ?_
  exact ⟨_, rfl, bool_res hC2 _⟩

theorem c_Slices_Insert_Limpl_Fact_impl_Fact {Fs : List (List Nat)} {w0 : World} (a1 : (List (Int × (List Int)))) (u1 : Value) (a2 : Int) (a3 : (List (Int × (List Int)))) (u2 : Value) (hH : Hold [Item.own u1 (a1 : (List (Int × (List Int)))), Item.own u2 (a3 : (List (Int × (List Int))))] w0 Fs) (hn : Fs.flatten.Nodup) (rr : (List (Int × (List Int)))) (hF : Slices.Insert_Limpl_Fact_impl_Fact a1 a2 a3 = some rr) :
    Calls Try.prog 123 [u1, (.int .i64 a2), u2].toArray w0 fun e w' => ∃ v, e = .returned v ∧ ∃ q0 : Value, v = q0 ∧ Ctx Fs.flatten w0 w' [Item.own q0 (rr : (List (Int × (List Int))))] := by
  refine calls_of_W Try.func123 rfl rfl ?_
  have hC0 := Ctx.startIn hH hn
  unfold Slices.Insert_Limpl_Fact_impl_Fact at hF
  obtain ⟨m, rfl, hm, hb1, hlim, rfl⟩ := ins_some hF
  have hsub : sub a1 (m : Int) (a1.length : Int) = some (a1.drop m) := by unfold sub; rw [if_pos (by omega)]; simp
  have hb1' : (a3.length : Int) = 1 := by omega
  have hlim' : a1.length + 1 ≤ 4294967296 := by rw [LIM_eq] at hlim; exact hlim
  have hw1 : w64 ((a1.length : Int) + 1) = ((a1.length + 1 : Nat) : Int) := by rw [w64_id (by omega) (by omega)]; omega
  have hw2 : w64 (((a1.length + 1 : Nat) : Int) - (m : Int)) = ((a1.length + 1 - m : Nat) : Int) := by rw [w64_id (by omega) (by omega)]; omega
  have hw3 : w64 ((m : Int) + 1) = ((m + 1 : Nat) : Int) := by rw [w64_id (by omega) (by omega)]; omega
  refine W_seq_reg ?_
  refine WL_assign rfl rfl ?_
  refine WL_nil ?_
  refine W_seq_reg ?_
  refine WL_move rfl rfl ?_
  refine WL_move rfl rfl ?_
  refine WL_slice_l Try.underlying36 ty77 (hC0.ro 0 rfl) hsub rfl rfl rfl (fun v1 h1 => ?_)
  refine WL_nil ?_
  refine W_seq_reg ?_
  refine WL_move rfl rfl ?_
  refine WL_len Try.underlying36 (hC0.ro 1 rfl) rfl rfl ?_
  rw [hb1']
  refine WL_assign rfl rfl ?_
  refine WL_nil ?_
  refine W_seq ?_
  refine W_seq_reg ?_
  refine WL_move rfl rfl ?_
  refine WL_eql rfl rfl rfl ?_
  refine WL_nil ?_
  refine W_cond_f rfl ?_
  refine W_skip ?_
  refine nrm_normal ?_
  refine W_seq_reg ?_
  refine WL_move rfl rfl ?_
  refine WL_len Try.underlying36 (hC0.ro 0 rfl) rfl rfl ?_
  refine WL_assign rfl rfl ?_
  refine WL_nil ?_
  refine W_seq ?_
  refine W_seq_reg ?_
  refine WL_move rfl rfl ?_
  refine WL_move rfl rfl ?_
  refine WL_eql rfl rfl rfl ?_
  by_cases hi : m = a1.length
  · have e1 : a1.take m ++ a3 ++ a1.drop m = a1 ++ a3 := by rw [List.take_of_length_le (by omega), List.drop_of_length_le (by omega), List.append_nil]
    rw [e1, decide_eq_true (show (m : Int) = (a1.length : Int) by omega)]
    refine WL_nil ?_
    refine W_cond_t rfl ?_
    refine W_seq_reg ?_
    refine WL_move rfl rfl ?_
    refine WL_move rfl rfl ?_
    have happ : app a1 a3 = some (a1 ++ a3) := by unfold app; rw [if_pos (by omega)]
    refine WL_append_head hC0.swap 0 rfl Try.underlying36 ty77 rfl happ rfl rfl rfl (fun v2 w2 hC2 => ?_)
    refine WL_assign rfl rfl ?_
    refine WL_nil ?_
    refine W_ret ?_
    refine nrm_ret ?_
    refine fn_ret1 rfl rfl ?_
    exact ⟨_, rfl, _, rfl, hC2⟩
  · rw [decide_eq_false (show ¬ (m : Int) = (a1.length : Int) by omega)]
    refine WL_nil ?_
    refine W_cond_f rfl ?_
    refine W_skip ?_
    refine nrm_normal ?_
    have hml : m < a1.length := by omega
    obtain ⟨b, c, row, T, cells, Fe, vb, vc, vrow, vT, vcells, Ge, rfl, rfl, h4, g4, h5, g5, h6, g6, h8, g8, h10, h11, h12, h13, h14, h15, hK⟩ := hC0.ins_raw (by intro e; rw [e] at hml; simp at hml) (by intro e; rw [e] at hb1; simp at hb1)
    have hcl := elems_len h5
    have hvl := elems_len g5
    rw [hb1] at hvl
    have hyl : (cells.drop (m * Rep.sz (Int × (List Int)))).length = (a1.length - m) * Rep.sz (Int × (List Int)) := by rw [List.length_drop, hcl, Nat.sub_mul]
    have hvr : (vrow.toList.drop 0).take (1 * Rep.sz (Int × (List Int))) = vcells := by rw [List.drop_zero, ← g6, hb1]
    have hv1 := elems_one g5
    have hy1 : ∀ u ∈ cells.drop (m * Rep.sz (Int × (List Int))), u.oneCell' = true := fun u hu => elems_one h5 u (List.mem_of_mem_drop hu)
    refine W_seq ?_
    refine W_seq_reg ?_
    refine WL_move rfl rfl ?_
    refine WL_move rfl rfl ?_
    refine WL_add rfl rfl rfl ?_
    rw [hw1]
    refine WL_move rfl rfl ?_
    refine WL_cap Try.underlying36 rfl rfl ?_
    refine WL_gtr rfl rfl rfl ?_
    by_cases hr : c < a1.length + 1
    · rw [decide_eq_true (show (c : Int) < ((a1.length + 1 : Nat) : Int) by omega)]
      refine WL_nil ?_
      refine W_cond_t rfl ?_
      refine W_seq_reg ?_
      refine WL_move rfl rfl ?_
      refine WL_move rfl rfl ?_
      refine WL_sl_h Try.underlying36 ty77 (show m ≤ c by omega) (by omega) rfl rfl rfl ?_
      refine WL_move rfl rfl ?_
      refine WL_move rfl rfl ?_
      refine WL_add rfl rfl rfl ?_
      rw [hw1]
      refine WL_move rfl rfl ?_
      refine WL_sub rfl rfl rfl ?_
      rw [hw2]
      refine WL_zeros Try.underlying36 ty77 rfl Try.underlying3 h4 (take_cells h6 hm) (by rw [List.length_take, hcl, Nat.min_eq_left (Nat.mul_le_mul_right _ hm)]) (show 0 < a1.length + 1 - m by omega) (by omega) (by rw [LIM_eq]; omega) rfl rfl rfl (fun c' row' k1 k2 k3 k4 => ?_)
      rw [show m + (a1.length + 1 - m) = a1.length + 1 by omega] at k3 ⊢
      obtain ⟨q1, q2, q3⟩ := row_grow (row' := row') hm hcl hvl k1 k2 k3
      obtain ⟨w1, hw1e⟩ : ∃ w1, w1 = w0.drew.alloc (.cells row' 77) := ⟨_, rfl⟩
      have hA1 : w1.heap[w0.heap.size]? = some (.cells row' 77 (0, 0)) := by rw [hw1e]; exact heap_alloc_new w0.drew _
      have hB1 : Below w0.heap.size w0 w1 := by rw [hw1e]; exact below_new w0 _
      rw [← hw1e]
      refine WL_assign rfl rfl ?_
      refine WL_nil ?_
      refine W_seq_reg ?_
      refine WL_move rfl rfl ?_
      refine WL_move rfl rfl ?_
      refine WL_sl_l Try.underlying36 ty77 (show m < c' by omega) (show m ≤ a1.length + 1 by omega) k3 rfl rfl rfl ?_
      refine WL_move rfl rfl ?_
      refine WL_copy (m := 1) Try.underlying36 ty77 hA1 ((hB1.block vb (heap_lt g4)).trans g4) (by show Nat.min a3.length (a1.length + 1 - m) = 1; rw [hb1]; exact Nat.min_eq_left (by omega)) hvr hvl hv1 (by rw [hvl, k2, Nat.zero_add, ← Nat.add_mul]; exact Nat.mul_le_mul_right _ (by omega)) rfl rfl rfl ?_
      generalize hr1 : (row'.toList.take (0 + m * Rep.sz (Int × (List Int))) ++ vcells ++ row'.toList.drop (0 + m * Rep.sz (Int × (List Int)) + vcells.length)).toArray = r1 at q1 q2 q3 ⊢
      have hA2 : (w1.setRow w0.heap.size r1).heap[w0.heap.size]? = some (.cells r1 77 (0, 0)) := setRow_heap _ _ _ _ _ _ hA1
      have hB2 : Below w0.heap.size w0 (w1.setRow w0.heap.size r1) := below_row hB1 (Nat.le_refl _)
      refine WL_nil ?_
      refine W_seq ?_
      refine W_drawn 9 rfl hmix (fun w3 hB3 => ?_)
      refine WA_take 0 rfl (by kernel_rfl) (by kernel_rfl) (by kernel_rfl) rfl (fl_move rfl) ?_
      refine WL_move rfl rfl ?_
      refine WL_nil ?_
      refine WA_take 1 rfl (by kernel_rfl) (by kernel_rfl) (by kernel_rfl) rfl (fl_move rfl) ?_
      refine WL_move rfl rfl ?_
      refine WL_nil ?_
      refine WA_take 2 rfl (by kernel_rfl) (by kernel_rfl) (by kernel_rfl) rfl (fl_move rfl) ?_
      refine WL_move rfl rfl ?_
      refine WL_nil ?_
      refine WA_take 3 rfl (by kernel_rfl) (by kernel_rfl) (by kernel_rfl) rfl (fl_add rfl rfl) ?_
      refine WL_add rfl rfl rfl ?_
      rw [hw3]
      refine WL_nil ?_
      refine WA_take 4 rfl (by kernel_rfl) (by kernel_rfl) (by kernel_rfl) rfl (fl_sl_l Try.underlying36 ty77 (show m + 1 < c' by omega) (show m + 1 ≤ a1.length + 1 by omega) k3 rfl rfl) ?_
      refine WL_sl_l Try.underlying36 ty77 (show m + 1 < c' by omega) (show m + 1 ≤ a1.length + 1 by omega) k3 rfl rfl rfl ?_
      refine WL_nil ?_
      refine WA_take 5 rfl (by kernel_rfl) (by kernel_rfl) (by kernel_rfl) rfl (fl_move rfl) ?_
      refine WL_move rfl rfl ?_
      refine WL_nil ?_
      refine WA_take 6 rfl (by kernel_rfl) (by kernel_rfl) (by kernel_rfl) rfl (fl_move rfl) ?_
      refine WL_move rfl rfl ?_
      refine WL_nil ?_
      refine WA_take 7 rfl (by kernel_rfl) (by kernel_rfl) (by kernel_rfl) rfl (fl_sl_l Try.underlying36 ty77 (show m < c by omega) hm h10 rfl rfl) ?_
      refine WL_sl_l Try.underlying36 ty77 (show m < c by omega) hm h10 rfl rfl rfl ?_
      refine WL_nil ?_
      have hA3 : w3.heap[w0.heap.size]? = some (.cells r1 77 (0, 0)) := (hB3.block _ (heap_lt hA2)).trans hA2
      have hB30 : Below w0.heap.size w0 w3 := hB2.trans ⟨hB3.os, hB3.tape, hB3.output, hB3.size, fun k hk => hB3.block k (Nat.lt_of_lt_of_le hk hB2.size)⟩
      refine WA_one 8 (by kernel_rfl) rfl ?_
      refine WL_copy (m := a1.length - m) Try.underlying36 ty77 hA3 ((hB30.block b (heap_lt h4)).trans h4) (by show Nat.min (a1.length - m) (a1.length + 1 - (m + 1)) = a1.length - m; rw [show a1.length + 1 - (m + 1) = a1.length - m by omega]; exact Nat.min_self _) (drop_cells h6) hyl hy1 (by rw [hyl, q3, Nat.zero_add, ← Nat.add_mul]; exact Nat.mul_le_mul_right _ (by omega)) rfl rfl rfl ?_
      generalize hr2 : (r1.toList.take (0 + (m + 1) * Rep.sz (Int × (List Int))) ++ cells.drop (m * Rep.sz (Int × (List Int))) ++ r1.toList.drop (0 + (m + 1) * Rep.sz (Int × (List Int)) + (cells.drop (m * Rep.sz (Int × (List Int)))).length)).toArray = r2 at q1 q2 ⊢
      refine WL_nil ?_
      refine WA_done (by kernel_rfl) ?_
      refine nrm_normal ?_
      refine W_seq_reg ?_
      refine WL_move rfl rfl ?_
      refine WL_assign rfl rfl ?_
      refine WL_nil ?_
      refine W_ret ?_
      refine nrm_ret ?_
      refine fn_ret1 rfl rfl ?_
      have hB4 : Below w0.heap.size w0 (w3.setRow w0.heap.size r2) := below_row hB30 (Nat.le_refl _)
      have hin : ∀ k ∈ Fe ++ Ge, k < w0.heap.size := fun k hk => (List.mem_append.1 hk).elim (elems_inh h5 k) (elems_inh g5 k)
      obtain ⟨F', e1, e2, e3⟩ := ins_val (w' := w3.setRow w0.heap.size r2) h5 g5 h14 hm hb1 (g := w0.heap.size) (fun h => absurd (hin _ h) (Nat.lt_irrefl _)) (setRow_heap _ _ _ _ _ _ hA3) (fun k hk => hB4.block k (hin k hk)) q1 q2 k3 k4
      exact ⟨_, rfl, _, rfl, hK _ _ _ F' ⟨hB4.os, hB4.tape, hB4.output, hB4.size, fun k hk _ => hB4.block k hk⟩ e1 e2 (fun k hk => (e3 k hk).elim (fun h => .inr (.inr (Nat.le_of_eq h.symm))) (fun h => .inr (.inl h)))⟩
    · rw [decide_eq_false (show ¬ (c : Int) < ((a1.length + 1 : Nat) : Int) by omega)]
      refine WL_nil ?_
      refine W_cond_f rfl ?_
      refine W_skip ?_
      refine nrm_normal ?_
      have k3 : a1.length + 1 ≤ c := by omega
      obtain ⟨q1, q2, q3⟩ := row_shift hm hcl hvl h6 h8 k3
      refine W_seq_reg ?_
      refine WL_move rfl rfl ?_
      refine WL_move rfl rfl ?_
      refine WL_move rfl rfl ?_
      refine WL_add rfl rfl rfl ?_
      rw [hw1]
      refine WL_sl_h Try.underlying36 ty77 k3 (by omega) rfl rfl rfl ?_
      refine WL_assign rfl rfl ?_
      refine WL_nil ?_
      refine W_seq ?_
      refine W_seq_reg ?_
      refine WL_move rfl rfl ?_
      refine WL_move rfl rfl ?_
      refine WL_move rfl rfl ?_
      refine WL_move rfl rfl ?_
      refine WL_add rfl rfl rfl ?_
      rw [hw3]
      refine WL_sl_l Try.underlying36 ty77 (show m + 1 < c by omega) (show m + 1 ≤ a1.length + 1 by omega) k3 rfl rfl rfl ?_
      refine WL_apart (R := 4) (run_callFunc_extern Try.func142 (by kernel_rfl) (by kernel_rfl) (by kernel_rfl) (by kernel_rfl)) Try.underlying36 ty77 h13 h4 g4 (by rw [h8]; exact Nat.ne_of_gt (Nat.mul_pos (by omega) (by decide))) rfl rfl rfl ?_
      refine WL_not rfl rfl ?_
      refine WL_nil ?_
      refine W_cond_t rfl ?_
      refine W_seq ?_
      refine W_drawn 9 rfl hmix (fun w3 hB3 => ?_)
      refine WA_take 0 rfl (by kernel_rfl) (by kernel_rfl) (by kernel_rfl) rfl (fl_move rfl) ?_
      refine WL_move rfl rfl ?_
      refine WL_nil ?_
      refine WA_take 1 rfl (by kernel_rfl) (by kernel_rfl) (by kernel_rfl) rfl (fl_move rfl) ?_
      refine WL_move rfl rfl ?_
      refine WL_nil ?_
      refine WA_take 2 rfl (by kernel_rfl) (by kernel_rfl) (by kernel_rfl) rfl (fl_move rfl) ?_
      refine WL_move rfl rfl ?_
      refine WL_nil ?_
      refine WA_take 3 rfl (by kernel_rfl) (by kernel_rfl) (by kernel_rfl) rfl (fl_add rfl rfl) ?_
      refine WL_add rfl rfl rfl ?_
      rw [hw3]
      refine WL_nil ?_
      refine WA_take 4 rfl (by kernel_rfl) (by kernel_rfl) (by kernel_rfl) rfl (fl_sl_l Try.underlying36 ty77 (show m + 1 < c by omega) (show m + 1 ≤ a1.length + 1 by omega) k3 rfl rfl) ?_
      refine WL_sl_l Try.underlying36 ty77 (show m + 1 < c by omega) (show m + 1 ≤ a1.length + 1 by omega) k3 rfl rfl rfl ?_
      refine WL_nil ?_
      refine WA_take 5 rfl (by kernel_rfl) (by kernel_rfl) (by kernel_rfl) rfl (fl_move rfl) ?_
      refine WL_move rfl rfl ?_
      refine WL_nil ?_
      refine WA_take 6 rfl (by kernel_rfl) (by kernel_rfl) (by kernel_rfl) rfl (fl_move rfl) ?_
      refine WL_move rfl rfl ?_
      refine WL_nil ?_
      refine WA_take 7 rfl (by kernel_rfl) (by kernel_rfl) (by kernel_rfl) rfl (fl_sl_l Try.underlying36 ty77 (show m < c by omega) (show m ≤ a1.length + 1 by omega) k3 rfl rfl) ?_
      refine WL_sl_l Try.underlying36 ty77 (show m < c by omega) (show m ≤ a1.length + 1 by omega) k3 rfl rfl rfl ?_
      refine WL_nil ?_
      have hA3 : w3.heap[b]? = some (.cells row T (0, 0)) := (hB3.block _ (heap_lt h4)).trans h4
      refine WA_one 8 (by kernel_rfl) rfl ?_
      refine WL_copy (m := a1.length - m) Try.underlying36 ty77 hA3 hA3 (by show Nat.min (a1.length + 1 - m) (a1.length + 1 - (m + 1)) = a1.length - m; rw [show a1.length + 1 - (m + 1) = a1.length - m by omega]; exact Nat.min_eq_right (by omega)) (drop_cells h6) hyl hy1 (by rw [hyl, h8, Nat.zero_add, ← Nat.add_mul]; exact Nat.mul_le_mul_right _ (by omega)) rfl rfl rfl ?_
      generalize hr1 : (row.toList.take (0 + (m + 1) * Rep.sz (Int × (List Int))) ++ cells.drop (m * Rep.sz (Int × (List Int))) ++ row.toList.drop (0 + (m + 1) * Rep.sz (Int × (List Int)) + (cells.drop (m * Rep.sz (Int × (List Int)))).length)).toArray = r1 at q1 q2 q3 ⊢
      have hA4 : (w3.setRow b r1).heap[b]? = some (.cells r1 T (0, 0)) := setRow_heap _ _ _ _ _ _ hA3
      have g43 : (w3.setRow b r1).heap[vb]? = some (.cells vrow vT (0, 0)) := (setRow_other _ _ _ _ h13).trans ((hB3.block _ (heap_lt g4)).trans g4)
      refine WL_nil ?_
      refine WA_done (by kernel_rfl) ?_
      refine nrm_normal ?_
      refine W_seq_reg ?_
      refine WL_move rfl rfl ?_
      refine WL_move rfl rfl ?_
      refine WL_sl_l Try.underlying36 ty77 (show m < c by omega) (show m ≤ a1.length + 1 by omega) k3 rfl rfl rfl ?_
      refine WL_move rfl rfl ?_
      refine WL_copy (m := 1) Try.underlying36 ty77 hA4 g43 (by show Nat.min a3.length (a1.length + 1 - m) = 1; rw [hb1]; exact Nat.min_eq_left (by omega)) hvr hvl hv1 (by rw [hvl, q3, Nat.zero_add, ← Nat.add_mul]; exact Nat.mul_le_mul_right _ (by omega)) rfl rfl rfl ?_
      generalize hr2 : (r1.toList.take (0 + m * Rep.sz (Int × (List Int))) ++ vcells ++ r1.toList.drop (0 + m * Rep.sz (Int × (List Int)) + vcells.length)).toArray = r2 at q1 q2 ⊢
      refine WL_nil ?_
      refine W_seq_reg ?_
      refine WL_move rfl rfl ?_
      refine WL_assign rfl rfl ?_
      refine WL_nil ?_
      refine W_ret ?_
      refine nrm_ret ?_
      refine fn_ret1 rfl rfl ?_
      have hK4 : Keep [b] w0 ((w3.setRow b r1).setRow b r2) := Keep.row (Keep.row ⟨hB3.os, hB3.tape, hB3.output, hB3.size, fun k hk _ => hB3.block k hk⟩)
      have hin : ∀ k ∈ Fe ++ Ge, k < w0.heap.size := fun k hk => (List.mem_append.1 hk).elim (elems_inh h5 k) (elems_inh g5 k)
      obtain ⟨F', e1, e2, e3⟩ := ins_val (w' := (w3.setRow b r1).setRow b r2) h5 g5 h14 hm hb1 (g := b) h15 (setRow_heap _ _ _ _ _ _ hA4) (fun k hk => hK4.block k (hin k hk) (by simp only [List.mem_singleton]; intro e; exact h15 (e ▸ hk))) q1 q2 k3 h11
      exact ⟨_, rfl, _, rfl, hK _ _ _ F' hK4 e1 e2 (fun k hk => (e3 k hk).elim .inl (fun h => .inr (.inl h)))⟩

theorem c_Slices_Clone_Lint_int {w0 : World} (a1 : (List Int)) (u1 : Value) (g1 : RO [] w0 u1 a1) (rr : (List Int)) (hF : Slices.Clone_Lint_int a1 = some rr) :
    Calls Try.prog 141 [u1].toArray w0 fun e w' => ∃ v, e = .returned v ∧ Res w0 rr v w' := by
  refine calls_of_W Try.func141 rfl rfl ?_
  have hC0 := Ctx.start w0
  unfold Slices.Clone_Lint_int at hF
  refine W_seq_reg ?_
  refine WL_assign rfl rfl ?_
  refine WL_nil ?_
  refine W_seq ?_
  refine W_seq_reg ?_
  refine WL_move rfl rfl ?_
  refine WL_isnil Try.underlying22 g1 rfl rfl (fun bn1 hb1 => ?_)
  refine WL_nil ?_
  rcases btf bn1 with hc1 | hc1
  · have ha := hb1 hc1
    subst hc1
    subst ha
    replace hF : (some ([]) : Option (List Int)) = some rr := by simpa [app] using hF
    refine W_cond_t rfl ?_
    refine W_seq_reg ?_
    refine WL_assign rfl rfl ?_
    refine WL_nil ?_
    refine W_ret ?_
    refine nrm_ret ?_
    have hq1 := Option.some.inj hF
    subst hq1
    refine fn_ret1 rfl rfl ?_
    exact ⟨_, rfl, nil_res hC0⟩
  · subst hc1
    refine W_cond_f rfl ?_
    refine W_skip ?_
    refine nrm_normal ?_
    refine W_seq_reg ?_
    refine WL_buildSlice (vs := []) hC0 Try.underlying22 ty3 rfl rfl rfl rfl (by simp) rfl rfl (fun b1 w1 hC1 hB1 => ?_)
    have hC2 := hC1.row0 (α := Int)
    have hC3 := hC2.front 1 rfl
    dsimp only [List.eraseIdx, List.cons_append, List.nil_append, List.append_nil] at hC3
    have hC4 : Ctx [] w0 w1 (Item.own (.slice (some ⟨b1, 0, none⟩) 0 0) (([] : List Int) : List Int) :: []) := hC3.rowOwn (by simp [maxLen])
    refine WL_move rfl rfl ?_
    obtain ⟨x1, hx1, hF⟩ := bind_some hF
    refine WL_append_flat (α := Int) hC4 0 rfl g1 hC4.keep Try.underlying22 ty3 rfl hx1 rfl rfl rfl (fun v1 w2 hC5 => ?_)
    try dsimp only [List.set] at hC5
    refine WL_assign rfl rfl ?_
    refine WL_nil ?_
    refine W_ret ?_
    have hq2 := Option.some.inj hF
    subst hq2
    refine fn_ret1 rfl rfl ?_
    exact ⟨_, rfl, own_res hC5 0 rfl⟩

theorem c_M_copyFact {w0 : World} (a1 : (Int × (List Int))) (u1 : Value) (g1 : RO [] w0 u1 a1.2) (rr : (Int × (List Int))) (hF : M.copyFact a1 = some rr) :
    Calls Try.prog 124 [(.agg #[(.int .i64 a1.1), u1])].toArray w0 fun e w' => ∃ v, e = .returned v ∧ Res w0 rr v w' := by
  refine calls_of_W Try.func124 rfl rfl ?_
  have hC0 := Ctx.start w0
  unfold M.copyFact at hF
  refine W_seq_reg ?_
  refine WL_box (cs := [(.int .i64 a1.1), u1]) hC0 rfl rfl rfl (fun b1 w1 hC1 hB1 => ?_)
  refine WL_alloc hC1 zero77 rfl rfl (fun b2 w2 hC2 hB2 => ?_)
  refine WL_nil ?_
  refine W_seq ?_
  refine W_drawn 7 rfl hmix (fun w3 hB3 => ?_)
  have hC3 := hC2.grow hB3
  refine WA_take 0 rfl (by kernel_rfl) (by kernel_rfl) (by kernel_rfl) rfl (fl_field Try.underlying77 rfl rfl (fun w => ⟨_, Try.sizeOf3 w⟩) rfl) ?_
  refine WL_field Try.underlying77 rfl rfl (fun w => ⟨_, Try.sizeOf3 w⟩) rfl rfl ?_
  refine WL_nil ?_
  refine WA_take 2 rfl (by kernel_rfl) (by kernel_rfl) (by kernel_rfl) rfl (fl_field Try.underlying77 rfl rfl (fun w => ⟨_, Try.sizeOf22 w⟩) rfl) ?_
  refine WL_field Try.underlying77 rfl rfl (fun w => ⟨_, Try.sizeOf22 w⟩) rfl rfl ?_
  refine WL_nil ?_
  obtain ⟨x1, hr1, hF⟩ := bind_some hF
  refine WA.sub (l' := [(0, (.agg #[(.int .i64 a1.1), u1])), (1, (ptr b1 0)), (2, (ptr b2 0)), (3, (ptr b1 0)), (5, (ptr b1 1))]) ?_ ⟨rfl, rfl, rfl, rfl, rfl, trivial⟩
  refine WA_postsE [⟨1, [], fun vs => PW.val (.int .i64 a1.1), []⟩, ⟨3, [], fun vs => PW.val u1, []⟩, ⟨4, [], fun vs => PW.own x1, []⟩] [[], [], [3]] 2 rfl (by kernel_rfl) (by kernel_rfl) rfl ?_ ?_
  · refine StepsE_cons rfl ?_ ?_
    · intro w5 hB5
      refine DepsE_nil ?_
      refine ⟨_, rfl, ?_⟩
      refine WL_load_box (hC3.grow hB5) 1 rfl rfl Try.isAgg3 rfl rfl ?_
      refine WL_nil ?_
      exact FinE_val (Below.refl _ _) rfl rfl ⟨rfl, rfl⟩
    refine StepsE_cons rfl ?_ ?_
    · intro w5 hB5
      refine DepsE_nil ?_
      refine ⟨_, rfl, ?_⟩
      refine WL_load_box (hC3.grow hB5) 1 rfl rfl Try.isAgg22 rfl rfl ?_
      refine WL_nil ?_
      exact FinE_val (Below.refl _ _) rfl rfl ⟨rfl, rfl⟩
    refine StepsE_cons rfl ?_ ?_
    · intro w5 hB5
      refine DepsE_cons rfl rfl rfl ?_
      rintro _ _ ⟨rfl, rfl⟩ _
      refine DepsE_nil ?_
      refine ⟨_, rfl, ?_⟩
      refine WL_call Try.call141 rfl rfl (c_Slices_Clone_Lint_int a1.2 u1 (g1.now (hC3.keep.then hB5)) x1 hr1) ?_
      rintro v1 w4 ⟨hB4, F1, hv1, hn1, hb1⟩
      refine WL_nil ?_
      exact FinE_own hB4 rfl rfl hv1 hn1 hb1 (Val.inh hv1)
    exact StepsE_nil
  · intro w6 hB6
    refine AllE_cons rfl rfl rfl ?_
    rintro _ _ ⟨rfl, rfl⟩
    refine AllE_cons rfl rfl rfl ?_
    rintro _ _ ⟨rfl, rfl⟩
    refine AllE_cons rfl rfl rfl ?_
    intro v1 F1 hv1
    refine AllE_nil ?_
    intro hn2 hb2
    have hC4 := hC3.pushL hB6 (Bs := [Item.own v1 (x1 : (List Int))]) (Fs := [F1]) ⟨F1, _, rfl, hv1, rfl⟩ (by simpa using hn2) (fun b h => (hb2 b (by simpa using h)).1)
    refine WA_take 5 rfl (by kernel_rfl) (by kernel_rfl) (by kernel_rfl) rfl (fl_build (vs := [(0, (.int .i64 a1.1)), (1, v1)]) rfl rfl (built77_0_1 rfl (ro_cells (hC4.ro 0 rfl)))) ?_
    refine WL_build (vs := [(0, (.int .i64 a1.1)), (1, v1)]) rfl rfl rfl (built77_0_1 rfl (ro_cells (hC4.ro 0 rfl))) ?_
    refine WL_nil ?_
    refine WA_one 6 (by kernel_rfl) rfl ?_
    refine WL_store_box_agg (cs' := [(.int .i64 a1.1), v1]) (new := [(.int .i64 a1.1), v1]) hC4 1 rfl rfl (by intro v hv; simp only [List.mem_cons, List.not_mem_nil, or_false] at hv; rcases hv with rfl | rfl; exact rfl; exact (ro_one (hC4.ro 0 rfl))) rfl Try.sizeOf77 rfl rfl (fun w7 hC5 => ?_)
    try dsimp only [List.set] at hC5
    refine WL_nil ?_
    refine WA_done (by kernel_rfl) ?_
    refine nrm_normal ?_
    refine W_ret ?_
    have hq1 := Option.some.inj hF
    subst hq1
    refine fn_retG1 rfl (rv_cell_agg (cs' := [(.int .i64 a1.1), v1]) hC5 (i := 1) rfl rfl rfl Try.isAgg77 Try.sizeOf77 rfl) ?_
    have hC6 := own_st77 a1.1 v1 x1 hC5
    exact ⟨_, rfl, own_res hC6 0 rfl⟩

theorem c_Slices_IndexFunc_Limpl_Fact_impl_Fact_M_added_c1 {w0 : World} (a1 : (List (Int × (List Int)))) (u1 : Value) (g1 : RO [] w0 u1 a1) (pb1 : Nat) (ax1 : (Int × (List Int))) (g2 : ROAt [] w0 pb1 0 ax1) (rr : Int) (hF : Slices.IndexFunc_Limpl_Fact_impl_Fact_M_added_c1 a1 ax1 = some rr) :
    Calls Try.prog 121 [u1, (.func (.func 122) #[] #[(ptr pb1 0)])].toArray w0 fun e w' => ∃ v, e = .returned v ∧ Res w0 rr v w' := by
  refine calls_of_W Try.func121 rfl rfl ?_
  have hC0 := Ctx.start w0
  unfold Slices.IndexFunc_Limpl_Fact_impl_Fact_M_added_c1 at hF
  refine W_seq_reg ?_
  refine WL_assign rfl rfl ?_
  refine WL_nil ?_
  refine W_seq ?_
  refine W_seq_reg ?_
  refine WL_move rfl rfl ?_
  refine WL_len Try.underlying36 g1 rfl rfl ?_
  refine WL_move rfl rfl ?_
  refine WL_nil ?_
  obtain ⟨r1, hr1, hF⟩ := bind_some hF
  refine W_norm (fun l w => .inl () = r1 ∧ l = [] ∧ Below w0.heap.size w0 w ∧ Ctx [] w0 w []) ?_ ?_
  · refine W_block ?_
    refine W.sub (l' := [(0, u1), (1, (.func (.func 122) #[] #[(ptr pb1 0)])), (7, (.int .i64 (List.length a1 : Int))), (8, (.int .i64 0))]) ?_ ⟨rfl, rfl, rfl, rfl, trivial⟩
    refine W_loop (fun k l w => ∃ x1 : Int, l = [(0, u1), (1, (.func (.func 122) #[] #[(ptr pb1 0)])), (7, (.int .i64 (List.length a1 : Int))), (8, (.int .i64 x1))] ∧ Below w0.heap.size w0 w ∧ Ctx [] w0 w [] ∧ Slices.IndexFunc_Limpl_Fact_impl_Fact_M_added_c1_l1 a1 ax1 k x1 = some r1) FUEL ⟨0, rfl, (Below.refl _ _), hC0, hr1⟩ ?_
    clear hr1
    rintro k1 _ w1 ⟨x1, rfl, hB1, hC1, hL1⟩
    cases k1 with
    | zero => rw [Slices.IndexFunc_Limpl_Fact_impl_Fact_M_added_c1_l1] at hL1; cases hL1
    | succ k1 =>
      rw [Slices.IndexFunc_Limpl_Fact_impl_Fact_M_added_c1_l1] at hL1
      refine W_seq_reg ?_
      refine WL_lss rfl rfl rfl ?_
      refine WL_nil ?_
      refine W_seq ?_
      refine W_cond rfl (fun hc1 => ?_) (fun hc1 => ?_)
      · replace hL1 := ite_t hL1 hc1
        refine W_skip ?_
        refine nrm_normal ?_
        refine W_seq ?_
        refine W_block ?_
        refine W_seq_reg ?_
        refine WL_move rfl rfl ?_
        refine WL_assign rfl rfl ?_
        refine WL_nil ?_
        refine W_seq_reg ?_
        refine WL_move rfl rfl ?_
        refine WL_move rfl rfl ?_
        refine WL_move rfl rfl ?_
        obtain ⟨x2, hx1, hL1⟩ := bind_some hL1
        refine WL_index Try.underlying36 ty77 g1 hx1 rfl rfl rfl (fun b1 o1 h1 => ?_)
        refine WL_load ty77 h1 hC1.keep rfl rfl (fun v1 h2 => ?_)
        obtain ⟨v2, rfl, h3⟩ := ro_st77 h2
        obtain ⟨x3, hr2, hL1⟩ := bind_some hL1
        refine WL_callv (cap := [(ptr pb1 0)]) Try.call122 rfl rfl rfl (c_M_added_c1 x2 v2 (h3.now hC1.keep) pb1 ax1 (g2.now hC1.keep) x3 hr2) ?_
        intro _ w2 hv1
        obtain ⟨rfl, hB2⟩ := res_bool hv1
        have hC2 := hC1.grow hB2
        refine WL_nil ?_
        refine W_cond rfl (fun hc2 => ?_) (fun hc2 => ?_)
        · replace hL1 := ite_t hL1 hc2
          refine W_seq_reg ?_
          refine WL_move rfl rfl ?_
          refine WL_assign rfl rfl ?_
          refine WL_nil ?_
          refine W_ret ?_
          refine blk_ret ?_
          refine nrm_ret ?_
          refine nrm_ret ?_
          refine blk_ret ?_
          refine nrm_ret ?_
          refine nrm_ret ?_
          have hq1 := Option.some.inj hL1
          subst hq1
          dsimp only at hF
          have hq2 := Option.some.inj hF
          subst hq2
          refine fn_ret1 rfl rfl ?_
          exact ⟨_, rfl, int_res hC2 _⟩
        · replace hL1 := ite_f hL1 hc2
          refine W_skip ?_
          refine blk_normal ?_
          refine nrm_normal ?_
          refine W_reg ?_
          refine WL_add rfl rfl rfl ?_
          refine WL_move rfl rfl ?_
          refine WL_nil ?_
          refine nrm_sub (l' := [(0, u1), (1, (.func (.func 122) #[] #[(ptr pb1 0)])), (7, (.int .i64 (List.length a1 : Int))), (8, (.int .i64 (w64 (x1 + 1))))]) ⟨rfl, rfl, rfl, rfl, trivial⟩ ?_
          exact ⟨k1, Nat.lt_succ_self _, w64 (x1 + 1), rfl, ((Keep.of hB1).then hB2).below, hC2, hL1⟩
      · replace hL1 := ite_f hL1 hc1
        refine W_exit ?_
        refine nrm_exit ?_
        refine nrm_exit ?_
        refine blk_exit ?_
        have hq3 := Option.some.inj hL1
        subst hq3
        refine nrm_sub (l' := []) trivial ?_
        exact ⟨rfl, rfl, (Keep.of hB1).below, hC1⟩
  · rintro l2 _ w3 hs2 ⟨rfl, rfl, hB3, hC3⟩
    try dsimp only at hF
    refine nrm_sub' hs2 ?_
    clear hs2
    refine W_seq_reg ?_
    refine WL_assign rfl rfl ?_
    refine WL_nil ?_
    refine W_ret ?_
    have hq4 := Option.some.inj hF
    subst hq4
    refine fn_ret1 rfl rfl ?_
    exact ⟨_, rfl, int_res hC3 _⟩

theorem c_M_added {w0 : World} {Fs : List (List Nat)} (a1 : (List (Int × (List Int)))) (u1 : Value) (a2 : (Int × (List Int))) (u2 : Value) (g2 : RO Fs.flatten w0 u2 a2.2) (hH : Hold [Item.own u1 (a1 : (List (Int × (List Int))))] w0 Fs) (hn : Fs.flatten.Nodup) (rr : (List (Int × (List Int)))) (hF : M.added a1 a2 = some rr) :
    Calls Try.prog 77 [u1, (.agg #[(.int .i64 a2.1), u2])].toArray w0 fun e w' => ∃ v, e = .returned v ∧ ∃ q0 : Value, v = q0 ∧ Ctx Fs.flatten w0 w' [Item.own q0 (rr : (List (Int × (List Int))))] := by
  refine calls_of_W Try.func77 rfl rfl ?_
  have hC0 := Ctx.startIn hH hn
  unfold M.added at hF
  refine W_seq_reg ?_
  refine WL_box (cs := [(.int .i64 a2.1), u2]) hC0 rfl rfl rfl (fun b1 w1 hC1 hB1 => ?_)
  refine WL_assign rfl rfl ?_
  refine WL_nil ?_
  refine W_seq ?_
  refine W_seq_reg ?_
  refine WL_move rfl rfl ?_
  refine WL_load_box_agg [(.int .i64 a2.1), u2] hC1 0 rfl rfl rfl Try.isAgg77 Try.sizeOf77 rfl rfl ?_
  obtain ⟨x1, hr1, hF⟩ := bind_some hF
  refine WL_call Try.call104 rfl rfl (c_M_HasFact a1 u1 ((hC1.ro 1 rfl).now (Keep.refl _ _)) (a2.1, a2.2) u2 (g2.now hC1.keep) x1 hr1) ?_
  intro _ w2 hv1
  obtain ⟨rfl, hB2⟩ := res_bool hv1
  have hC2 := hC1.grow hB2
  refine WL_nil ?_
  refine W_cond rfl (fun hc1 => ?_) (fun hc1 => ?_)
  · replace hF := ite_t hF hc1
    refine W_seq_reg ?_
    refine WL_move rfl rfl ?_
    refine WL_assign rfl rfl ?_
    refine WL_nil ?_
    refine W_ret ?_
    refine nrm_ret ?_
    have hq1 := Option.some.inj hF
    subst hq1
    refine fn_ret1 rfl rfl ?_
    have hC3 : Ctx Fs.flatten w0 _ [Item.own u1 (a1 : (List (Int × (List Int)))), Item.box b1 [(.int .i64 a2.1), u2]] := hC2.front 1 rfl
    have hC4 : Ctx Fs.flatten w0 _ [Item.own u1 (a1 : (List (Int × (List Int))))] := hC3.headN 1
    exact ⟨_, rfl, _, rfl, hC4⟩
  · replace hF := ite_f hF hc1
    refine W_skip ?_
    refine nrm_normal ?_
    refine W_seq_reg ?_
    refine WL_move rfl rfl ?_
    refine WL_makeFunc rfl rfl ?_
    obtain ⟨x2, hr2, hF⟩ := bind_some hF
    refine WL_call Try.call121 rfl rfl (c_Slices_IndexFunc_Limpl_Fact_impl_Fact_M_added_c1 a1 u1 ((hC2.ro 1 rfl).now (Keep.refl _ _)) b1 (a2.1, a2.2) (hC2.boxAt 0 rfl (repw_pair repw_int (repw_slice (g2.now hC2.keep)))) x2 hr2) ?_
    intro _ w3 hv2
    obtain ⟨rfl, hB3⟩ := res_int hv2
    have hC5 := hC2.grow hB3
    refine WL_assign rfl rfl ?_
    refine WL_nil ?_
    refine W_seq ?_
    refine W_seq_reg ?_
    refine WL_move rfl rfl ?_
    refine WL_lss rfl rfl rfl ?_
    refine WL_nil ?_
    obtain ⟨r1, hr3, hF⟩ := bind_some hF
    refine W_norm (fun l w => ∃ x3 : Int, x3 = r1 ∧ l = [(0, u1), (3, (ptr b1 0)), (5, (.int .i64 x3))] ∧ Below w3.heap.size w3 w ∧ Ctx Fs.flatten w0 w [Item.box b1 [(.int .i64 a2.1), u2], Item.own u1 (a1 : (List (Int × (List Int))))]) ?_ ?_
    · refine W_cond rfl (fun hc2 => ?_) (fun hc2 => ?_)
      · replace hr3 := ite_t hr3 hc2
        refine W_reg ?_
        refine WL_move rfl rfl ?_
        refine WL_len Try.underlying36 (hC5.ro 1 rfl) rfl rfl ?_
        refine WL_assign rfl rfl ?_
        refine WL_nil ?_
        have hq2 := Option.some.inj hr3
        subst hq2
        refine nrm_sub (l' := [(0, u1), (3, (ptr b1 0)), (5, (.int .i64 (List.length a1 : Int)))]) ⟨rfl, rfl, rfl, trivial⟩ ?_
        exact ⟨(List.length a1 : Int), rfl, rfl, (Below.refl _ _), hC5⟩
      · replace hr3 := ite_f hr3 hc2
        refine W_skip ?_
        have hq3 := Option.some.inj hr3
        subst hq3
        refine nrm_sub (l' := [(0, u1), (3, (ptr b1 0)), (5, (.int .i64 x2))]) ⟨rfl, rfl, rfl, trivial⟩ ?_
        exact ⟨x2, rfl, rfl, (Below.refl _ _), hC5⟩
    · rintro l1 _ w4 hs1 ⟨x3, rfl, rfl, hB4, hC6⟩
      try dsimp only at hF
      refine nrm_sub' hs1 ?_
      clear hs1
      refine W_seq_reg ?_
      refine WL_move rfl rfl ?_
      refine WL_move rfl rfl ?_
      refine WL_load_box_agg [(.int .i64 a2.1), u2] hC6 0 rfl rfl rfl Try.isAgg77 Try.sizeOf77 rfl rfl ?_
      obtain ⟨x4, hr4, hF⟩ := bind_some hF
      refine WL_call Try.call124 rfl rfl (c_M_copyFact (a2.1, a2.2) u2 (g2.now hC6.keep) x4 hr4) ?_
      rintro v1 w5 ⟨hB5, F1, hv3, hn1, hb1⟩
      have hC7 := hC6.push hB5 (A := Item.own v1 x4) hv3 hn1 hb1
      obtain ⟨v2, rfl, hC8⟩ := st77_own hC7
      refine WL_buildSlice (vs := [(.agg #[(.int .i64 x4.1), v2])]) hC8 Try.underlying36 ty77 rfl rfl rfl rfl (by intro v hv; simp only [List.mem_cons, List.not_mem_nil, or_false] at hv; rcases hv with rfl <;> rfl) rfl rfl (fun b2 w6 hC9 hB6 => ?_)
      have hC10 := hC9.row0 (α := (Int × (List Int)))
      have hC12 := hC10.front 2 rfl
      dsimp only [List.eraseIdx, List.cons_append, List.nil_append, List.append_nil] at hC12
      have hC11 := own_st77 x4.1 v2 x4.2 hC12
      have hC13 := hC11.row1
      have hC14 := hC13.front 1 rfl
      dsimp only [List.eraseIdx, List.cons_append, List.nil_append, List.append_nil] at hC14
      have hC15 : Ctx Fs.flatten w0 w6 (Item.own (.slice (some ⟨b2, 0, none⟩) 1 1) ([(x4.1, x4.2)] : List (Int × (List Int))) :: [Item.box b1 [(.int .i64 a2.1), u2], Item.own u1 (a1 : (List (Int × (List Int))))]) := hC14.rowOwn (by simp [maxLen])
      obtain ⟨x5, hr5, hF⟩ := bind_some hF
      have hC17 : Ctx Fs.flatten w0 _ [Item.own u1 (a1 : (List (Int × (List Int)))), Item.own (.slice (some ⟨b2, 0, none⟩) 1 1) ([(x4.1, x4.2)] : (List (Int × (List Int)))), Item.box b1 [(.int .i64 a2.1), u2]] := hC15.front 2 rfl
      obtain ⟨Fs1, hH1, hn2, hF1, hO1, hb2⟩ := Ctx.lend2 (As := [Item.box b1 [(.int .i64 a2.1), u2]]) [Item.own u1 (a1 : (List (Int × (List Int)))), Item.own (.slice (some ⟨b2, 0, none⟩) 1 1) ([(x4.1, x4.2)] : (List (Int × (List Int))))] hC17
      refine WL_call Try.call123 rfl rfl (c_Slices_Insert_Limpl_Fact_impl_Fact a1 u1 x3 ([(x4.1, x4.2)]) (.slice (some ⟨b2, 0, none⟩) 1 1) hH1 hn2 x5 hr5) ?_
      rintro v3 w7 ⟨_, rfl, hq4⟩
      have hC18 : Ctx Fs.flatten w0 w7 [Item.own v3 (x5 : (List (Int × (List Int)))), Item.box b1 [(.int .i64 a2.1), u2]] := hb2 _ _ hq4
      refine WL_assign rfl rfl ?_
      refine WL_nil ?_
      refine W_ret ?_
      have hq5 := Option.some.inj hF
      subst hq5
      refine fn_ret1 rfl rfl ?_
      have hC20 : Ctx Fs.flatten w0 _ [Item.own v3 (x5 : (List (Int × (List Int))))] := hC18.headN 1
      exact ⟨_, rfl, _, rfl, hC20⟩

theorem c_M_UnionOf {w0 : World} (a1 : (List ((Int × (List Int)) × (List (Int × (List Int)))))) (u1 : Value) (g1 : RO [] w0 u1 a1) (rr : (List (Int × (List Int)))) (hF : M.UnionOf a1 = some rr) :
    Calls Try.prog 25 [u1].toArray w0 fun e w' => ∃ v, e = .returned v ∧ Res w0 rr v w' := by
  refine calls_of_W Try.func25 rfl rfl ?_
  have hC0 := Ctx.start w0
  unfold M.UnionOf at hF
  refine W_seq_reg ?_
  refine WL_assign rfl rfl ?_
  refine WL_nil ?_
  refine W_seq_reg ?_
  refine WL_buildSlice (vs := []) hC0 Try.underlying36 ty77 rfl rfl rfl rfl (by simp) rfl rfl (fun b1 w1 hC1 hB1 => ?_)
  have hC2 := hC1.row0 (α := (Int × (List Int)))
  have hC3 := hC2.front 1 rfl
  dsimp only [List.eraseIdx, List.cons_append, List.nil_append, List.append_nil] at hC3
  have hC4 : Ctx [] w0 w1 (Item.own (.slice (some ⟨b1, 0, none⟩) 0 0) (([] : List (Int × (List Int))) : List (Int × (List Int))) :: []) := hC3.rowOwn (by simp [maxLen])
  refine WL_assign rfl rfl ?_
  refine WL_nil ?_
  refine W_seq ?_
  refine W_seq_reg ?_
  refine WL_move rfl rfl ?_
  refine WL_len Try.underlying47 g1 rfl rfl ?_
  refine WL_move rfl rfl ?_
  refine WL_nil ?_
  obtain ⟨r1, hr1, hF⟩ := bind_some hF
  refine W_norm (fun l w => ∃ v2 : Value, ∃ x3 : (List (Int × (List Int))), x3 = r1 ∧ l = [(3, v2)] ∧ Ctx [] w0 w [Item.own v2 (x3 : (List (Int × (List Int))))]) ?_ ?_
  · refine W_block ?_
    refine W.sub (l' := [(3, (.slice (some ⟨b1, 0, none⟩) 0 0)), (9, u1), (10, (.int .i64 (List.length a1 : Int))), (11, (.int .i64 0))]) ?_ ⟨rfl, rfl, rfl, rfl, trivial⟩
    refine W_loop (fun k l w => ∃ v1 : Value, ∃ x1 : (List (Int × (List Int))), ∃ x2 : Int, l = [(3, v1), (9, u1), (10, (.int .i64 (List.length a1 : Int))), (11, (.int .i64 x2))] ∧ Ctx [] w0 w [Item.own v1 (x1 : (List (Int × (List Int))))] ∧ M.UnionOf_l1 a1 k x1 x2 = some r1) FUEL ⟨(.slice (some ⟨b1, 0, none⟩) 0 0), ([] : List (Int × (List Int))), 0, rfl, hC4, hr1⟩ ?_
    clear hr1
    rintro k1 _ w2 ⟨v1, x1, x2, rfl, hC5, hL1⟩
    cases k1 with
    | zero => rw [M.UnionOf_l1] at hL1; cases hL1
    | succ k1 =>
      rw [M.UnionOf_l1] at hL1
      refine W_seq_reg ?_
      refine WL_lss rfl rfl rfl ?_
      refine WL_nil ?_
      refine W_seq ?_
      refine W_cond rfl (fun hc1 => ?_) (fun hc1 => ?_)
      · replace hL1 := ite_t hL1 hc1
        refine W_skip ?_
        refine nrm_normal ?_
        refine W_seq ?_
        refine W_block ?_
        refine W_seq_reg ?_
        obtain ⟨x4, hx1, hL1⟩ := bind_some hL1
        refine WL_index Try.underlying47 ty38 g1 hx1 rfl rfl rfl (fun b2 o1 h1 => ?_)
        refine WL_load ty38 h1 hC5.keep rfl rfl (fun v3 h2 => ?_)
        obtain ⟨v4, v5, rfl, h3, h4⟩ := ro_st38 h2
        refine WL_alloc hC5 zero38 rfl rfl (fun b3 w3 hC6 hB3 => ?_)
        refine WL_store_box_agg (cs' := [(.int .i64 x4.1.1), v4, v5]) (new := [(.int .i64 x4.1.1), v4, v5]) hC6 0 rfl rfl (by intro v hv; simp only [List.mem_cons, List.not_mem_nil, or_false] at hv; rcases hv with rfl | rfl | rfl; exact rfl; exact (ro_one h3); exact (ro_one h4)) rfl Try.sizeOf38 rfl rfl (fun w4 hC7 => ?_)
        try dsimp only [List.set] at hC7
        refine WL_nil ?_
        refine W_seq_reg ?_
        refine WL_field Try.underlying38 rfl rfl (fun w => ⟨_, Try.sizeOf36 w⟩) rfl rfl ?_
        refine WL_load_box hC7 0 rfl rfl Try.isAgg36 rfl rfl ?_
        refine WL_len Try.underlying36 h4 rfl rfl ?_
        refine WL_move rfl rfl ?_
        refine WL_nil ?_
        obtain ⟨r2, hr2, hL1⟩ := bind_some hL1
        refine W_norm (fun l w => ∃ v7 : Value, ∃ x7 : (List (Int × (List Int))), x7 = r2 ∧ l = [(3, v7), (9, u1), (10, (.int .i64 (List.length a1 : Int))), (11, (.int .i64 x2))] ∧ Ctx [] w0 w [Item.own v7 (x7 : (List (Int × (List Int))))]) ?_ ?_
        · refine W_block ?_
          have hC14 : Ctx [] w0 _ [Item.own v1 (x1 : (List (Int × (List Int)))), Item.box b3 [(.int .i64 x4.1.1), v4, v5]] := hC7.front 1 rfl
          have hC15 : Ctx [] w0 _ [Item.own v1 (x1 : (List (Int × (List Int))))] := hC14.headN 1
          refine W.sub (l' := [(3, v1), (9, u1), (10, (.int .i64 (List.length a1 : Int))), (11, (.int .i64 x2)), (16, v5), (17, (.int .i64 (List.length x4.2 : Int))), (18, (.int .i64 0))]) ?_ ⟨rfl, rfl, rfl, rfl, rfl, rfl, rfl, trivial⟩
          refine W_loop (fun k l w => ∃ v6 : Value, ∃ x5 : (List (Int × (List Int))), ∃ x6 : Int, l = [(3, v6), (9, u1), (10, (.int .i64 (List.length a1 : Int))), (11, (.int .i64 x2)), (16, v5), (17, (.int .i64 (List.length x4.2 : Int))), (18, (.int .i64 x6))] ∧ Ctx [] w0 w [Item.own v6 (x5 : (List (Int × (List Int))))] ∧ M.UnionOf_l2 x4 k x5 x6 = some r2) FUEL ⟨v1, x1, 0, rfl, hC15, hr2⟩ ?_
          clear hr2
          rintro k2 _ w5 ⟨v6, x5, x6, rfl, hC8, hL2⟩
          cases k2 with
          | zero => rw [M.UnionOf_l2] at hL2; cases hL2
          | succ k2 =>
            rw [M.UnionOf_l2] at hL2
            refine W_seq_reg ?_
            refine WL_lss rfl rfl rfl ?_
            refine WL_nil ?_
            refine W_seq ?_
            refine W_cond rfl (fun hc2 => ?_) (fun hc2 => ?_)
            · replace hL2 := ite_t hL2 hc2
              refine W_skip ?_
              refine nrm_normal ?_
              refine W_seq ?_
              refine W_block ?_
              refine W_seq_reg ?_
              obtain ⟨x8, hx2, hL2⟩ := bind_some hL2
              refine WL_index Try.underlying36 ty77 h4 hx2 rfl rfl rfl (fun b4 o2 h5 => ?_)
              refine WL_load ty77 h5 hC8.keep rfl rfl (fun v8 h6 => ?_)
              obtain ⟨v9, rfl, h7⟩ := ro_st77 h6
              refine WL_alloc hC8 zero77 rfl rfl (fun b5 w6 hC9 hB5 => ?_)
              refine WL_store_box_agg (cs' := [(.int .i64 x8.1), v9]) (new := [(.int .i64 x8.1), v9]) hC9 0 rfl rfl (by intro v hv; simp only [List.mem_cons, List.not_mem_nil, or_false] at hv; rcases hv with rfl | rfl; exact rfl; exact (ro_one h7)) rfl Try.sizeOf77 rfl rfl (fun w7 hC10 => ?_)
              try dsimp only [List.set] at hC10
              refine WL_nil ?_
              refine W_reg ?_
              refine WL_move rfl rfl ?_
              refine WL_load_box_agg [(.int .i64 x8.1), v9] hC10 0 rfl rfl rfl Try.isAgg77 Try.sizeOf77 rfl rfl ?_
              obtain ⟨x9, hr3, hL2⟩ := bind_some hL2
              have hC11 : Ctx [] w0 _ [Item.own v6 (x5 : (List (Int × (List Int)))), Item.box b5 [(.int .i64 x8.1), v9]] := hC10.front 1 rfl
              obtain ⟨Fs1, hH1, hn1, hF1, hO1, hb1⟩ := Ctx.lend2 (As := [Item.box b5 [(.int .i64 x8.1), v9]]) [Item.own v6 (x5 : (List (Int × (List Int))))] hC11
              refine WL_call Try.call77 rfl rfl (c_M_added x5 v6 (x8.1, x8.2) v9 (RO.lent h7 hC11.keep hF1) hH1 hn1 x9 hr3) ?_
              rintro v10 w8 ⟨_, rfl, hq1⟩
              have hC12 : Ctx [] w0 w8 [Item.own v10 (x9 : (List (Int × (List Int)))), Item.box b5 [(.int .i64 x8.1), v9]] := hb1 _ _ hq1
              refine WL_assign rfl rfl ?_
              refine WL_nil ?_
              refine blk_normal ?_
              refine nrm_normal ?_
              refine W_reg ?_
              refine WL_add rfl rfl rfl ?_
              refine WL_move rfl rfl ?_
              refine WL_nil ?_
              have hC13 : Ctx [] w0 _ [Item.own v10 (x9 : (List (Int × (List Int))))] := hC12.headN 1
              refine nrm_sub (l' := [(3, v10), (9, u1), (10, (.int .i64 (List.length a1 : Int))), (11, (.int .i64 x2)), (16, v5), (17, (.int .i64 (List.length x4.2 : Int))), (18, (.int .i64 (w64 (x6 + 1))))]) ⟨rfl, rfl, rfl, rfl, rfl, rfl, rfl, trivial⟩ ?_
              exact ⟨k2, Nat.lt_succ_self _, v10, x9, w64 (x6 + 1), rfl, hC13, hL2⟩
            · replace hL2 := ite_f hL2 hc2
              refine W_exit ?_
              refine nrm_exit ?_
              refine nrm_exit ?_
              refine blk_exit ?_
              have hq2 := Option.some.inj hL2
              subst hq2
              refine nrm_sub (l' := [(3, v6), (9, u1), (10, (.int .i64 (List.length a1 : Int))), (11, (.int .i64 x2))]) ⟨rfl, rfl, rfl, rfl, trivial⟩ ?_
              exact ⟨v6, x5, rfl, rfl, hC8⟩
        · rintro l3 _ w9 hs3 ⟨v7, x7, rfl, rfl, hC16⟩
          try dsimp only at hL1
          refine blk_normal ?_
          refine nrm_sub' hs3 ?_
          clear hs3
          refine W_reg ?_
          refine WL_add rfl rfl rfl ?_
          refine WL_move rfl rfl ?_
          refine WL_nil ?_
          refine nrm_sub (l' := [(3, v7), (9, u1), (10, (.int .i64 (List.length a1 : Int))), (11, (.int .i64 (w64 (x2 + 1))))]) ⟨rfl, rfl, rfl, rfl, trivial⟩ ?_
          exact ⟨k1, Nat.lt_succ_self _, v7, x7, w64 (x2 + 1), rfl, hC16, hL1⟩
      · replace hL1 := ite_f hL1 hc1
        refine W_exit ?_
        refine nrm_exit ?_
        refine nrm_exit ?_
        refine blk_exit ?_
        have hq3 := Option.some.inj hL1
        subst hq3
        refine nrm_sub (l' := [(3, v1)]) ⟨rfl, trivial⟩ ?_
        exact ⟨v1, x1, rfl, rfl, hC5⟩
  · rintro l4 _ w10 hs4 ⟨v2, x3, rfl, rfl, hC17⟩
    try dsimp only at hF
    refine nrm_sub' hs4 ?_
    clear hs4
    refine W_seq_reg ?_
    refine WL_move rfl rfl ?_
    refine WL_assign rfl rfl ?_
    refine WL_nil ?_
    refine W_ret ?_
    have hq4 := Option.some.inj hF
    subst hq4
    refine fn_ret1 rfl rfl ?_
    exact ⟨_, rfl, own_res hC17 0 rfl⟩

theorem c_Q_eqIntS {w0 : World} (a1 : (List Int)) (u1 : Value) (g1 : RO [] w0 u1 a1) (a2 : (List Int)) (u2 : Value) (g2 : RO [] w0 u2 a2) (rr : Bool) (hF : Q.eqIntS a1 a2 = some rr) :
    Calls Try.prog 19 [u1, u2].toArray w0 fun e w' => ∃ v, e = .returned v ∧ Res w0 rr v w' := by
  refine calls_of_W Try.func19 rfl rfl ?_
  have hC0 := Ctx.start w0
  unfold Q.eqIntS at hF
  refine W_seq_reg ?_
  refine WL_assign rfl rfl ?_
  refine WL_nil ?_
  refine W_seq ?_
  refine W_seq_reg ?_
  refine WL_move rfl rfl ?_
  refine WL_len Try.underlying22 g1 rfl rfl ?_
  refine WL_move rfl rfl ?_
  refine WL_len Try.underlying22 g2 rfl rfl ?_
  refine WL_neq rfl rfl rfl ?_
  refine WL_nil ?_
  refine W_cond rfl (fun hc1 => ?_) (fun hc1 => ?_)
  · replace hF := ite_t hF hc1
    refine W_seq_reg ?_
    refine WL_assign rfl rfl ?_
    refine WL_nil ?_
    refine W_ret ?_
    refine nrm_ret ?_
    have hq1 := Option.some.inj hF
    subst hq1
    refine fn_ret1 rfl rfl ?_
    exact ⟨_, rfl, bool_res hC0 _⟩
  · replace hF := ite_f hF hc1
    refine W_skip ?_
    refine nrm_normal ?_
    refine W_seq ?_
    refine W_seq_reg ?_
    refine WL_assign rfl rfl ?_
    refine WL_nil ?_
    obtain ⟨r1, hr1, hF⟩ := bind_some hF
    refine W_norm (fun l w => .inl () = r1 ∧ l = [] ∧ Below w0.heap.size w0 w ∧ Ctx [] w0 w []) ?_ ?_
    · refine W_block ?_
      refine W.sub (l' := [(0, u1), (1, u2), (5, (.int .i64 0))]) ?_ ⟨rfl, rfl, rfl, trivial⟩
      refine W_loop (fun k l w => ∃ x1 : Int, l = [(0, u1), (1, u2), (5, (.int .i64 x1))] ∧ Below w0.heap.size w0 w ∧ Ctx [] w0 w [] ∧ Q.eqIntS_l1 a1 a2 k x1 = some r1) FUEL ⟨0, rfl, (Below.refl _ _), hC0, hr1⟩ ?_
      clear hr1
      rintro k1 _ w1 ⟨x1, rfl, hB1, hC1, hL1⟩
      cases k1 with
      | zero => rw [Q.eqIntS_l1] at hL1; cases hL1
      | succ k1 =>
        rw [Q.eqIntS_l1] at hL1
        refine W_seq ?_
        refine W_seq_reg ?_
        refine WL_move rfl rfl ?_
        refine WL_move rfl rfl ?_
        refine WL_len Try.underlying22 g1 rfl rfl ?_
        refine WL_lss rfl rfl rfl ?_
        refine WL_nil ?_
        refine W_cond rfl (fun hc2 => ?_) (fun hc2 => ?_)
        · replace hL1 := ite_t hL1 hc2
          refine W_skip ?_
          refine nrm_normal ?_
          refine W_seq ?_
          refine W_block ?_
          refine W_seq ?_
          refine W_drawn 9 rfl hmix (fun w2 hB2 => ?_)
          have hC2 := hC1.grow hB2
          refine WA_take 0 rfl (by kernel_rfl) (by kernel_rfl) (by kernel_rfl) rfl (fl_move rfl) ?_
          refine WL_move rfl rfl ?_
          refine WL_nil ?_
          refine WA_take 1 rfl (by kernel_rfl) (by kernel_rfl) (by kernel_rfl) rfl (fl_move rfl) ?_
          refine WL_move rfl rfl ?_
          refine WL_nil ?_
          obtain ⟨x2, hx1, hL1⟩ := bind_some hL1
          refine WA_take 2 rfl (by kernel_rfl) (by kernel_rfl) (by kernel_rfl) rfl (fl_index Try.underlying22 ty3 g1 hx1 rfl rfl) ?_
          refine WL_index Try.underlying22 ty3 g1 hx1 rfl rfl rfl (fun b1 o1 h1 => ?_)
          refine WL_nil ?_
          refine WA_take 4 rfl (by kernel_rfl) (by kernel_rfl) (by kernel_rfl) rfl (fl_move rfl) ?_
          refine WL_move rfl rfl ?_
          refine WL_nil ?_
          refine WA_take 5 rfl (by kernel_rfl) (by kernel_rfl) (by kernel_rfl) rfl (fl_move rfl) ?_
          refine WL_move rfl rfl ?_
          refine WL_nil ?_
          obtain ⟨x3, hx2, hL1⟩ := bind_some hL1
          refine WA_take 6 rfl (by kernel_rfl) (by kernel_rfl) (by kernel_rfl) rfl (fl_index Try.underlying22 ty3 g2 hx2 rfl rfl) ?_
          refine WL_index Try.underlying22 ty3 g2 hx2 rfl rfl rfl (fun b2 o2 h2 => ?_)
          refine WL_nil ?_
          refine WA.sub (l' := [(0, u1), (1, u2), (5, (.int .i64 x1)), (11, (.int .i64 x1)), (12, u1), (13, (.int .i64 (List.length a1 : Int))), (14, (.bool (decide (x1 < (List.length a1 : Int))))), (17, u1), (18, (.int .i64 x1)), (19, (ptr b1 o1)), (21, u2), (22, (.int .i64 x1)), (23, (ptr b2 o2))]) ?_ ⟨rfl, rfl, rfl, rfl, rfl, rfl, rfl, rfl, rfl, rfl, rfl, rfl, rfl, trivial⟩
          refine WA_postsE [⟨3, [], fun vs => PW.val (.int .i64 x2), []⟩, ⟨7, [], fun vs => PW.val (.int .i64 x3), []⟩] [[], []] 1 rfl (by kernel_rfl) (by kernel_rfl) rfl ?_ ?_
          · refine StepsE_cons rfl ?_ ?_
            · intro w3 hB3
              refine DepsE_nil ?_
              refine ⟨_, rfl, ?_⟩
              refine WL_load ty3 h1 (hC2.keep.then hB3) rfl rfl (fun v1 h3 => ?_)
              obtain rfl := ro_int h3
              refine WL_nil ?_
              exact FinE_val (Below.refl _ _) rfl rfl ⟨rfl, rfl⟩
            refine StepsE_cons rfl ?_ ?_
            · intro w3 hB3
              refine DepsE_nil ?_
              refine ⟨_, rfl, ?_⟩
              refine WL_load ty3 h2 (hC2.keep.then hB3) rfl rfl (fun v2 h4 => ?_)
              obtain rfl := ro_int h4
              refine WL_nil ?_
              exact FinE_val (Below.refl _ _) rfl rfl ⟨rfl, rfl⟩
            exact StepsE_nil
          · intro w4 hB4
            refine AllE_cons rfl rfl rfl ?_
            rintro _ _ ⟨rfl, rfl⟩
            refine AllE_cons rfl rfl rfl ?_
            rintro _ _ ⟨rfl, rfl⟩
            refine AllE_nil ?_
            intro hn1 hb1
            have hC3 := hC2.grow hB4
            refine WA_take 8 rfl (by kernel_rfl) (by kernel_rfl) (by kernel_rfl) rfl (fl_neq rfl rfl) ?_
            refine WL_neq rfl rfl rfl ?_
            refine WL_nil ?_
            refine WA_done (by kernel_rfl) ?_
            refine nrm_normal ?_
            refine W_cond rfl (fun hc3 => ?_) (fun hc3 => ?_)
            · replace hL1 := ite_t hL1 hc3
              refine W_seq_reg ?_
              refine WL_assign rfl rfl ?_
              refine WL_nil ?_
              refine W_ret ?_
              refine blk_ret ?_
              refine nrm_ret ?_
              refine nrm_ret ?_
              refine blk_ret ?_
              refine nrm_ret ?_
              refine nrm_ret ?_
              have hq2 := Option.some.inj hL1
              subst hq2
              dsimp only at hF
              have hq3 := Option.some.inj hF
              subst hq3
              refine fn_ret1 rfl rfl ?_
              exact ⟨_, rfl, bool_res hC3 _⟩
            · replace hL1 := ite_f hL1 hc3
              refine W_skip ?_
              refine blk_normal ?_
              refine nrm_normal ?_
              refine W_reg ?_
              refine WL_move rfl rfl ?_
              refine WL_add rfl rfl rfl ?_
              refine WL_assign rfl rfl ?_
              refine WL_nil ?_
              refine nrm_sub (l' := [(0, u1), (1, u2), (5, (.int .i64 (w64 (x1 + 1))))]) ⟨rfl, rfl, rfl, trivial⟩ ?_
              exact ⟨k1, Nat.lt_succ_self _, w64 (x1 + 1), rfl, (((Keep.of hB1).then hB2).then hB4).below, hC3, hL1⟩
        · replace hL1 := ite_f hL1 hc2
          refine W_exit ?_
          refine nrm_exit ?_
          refine nrm_exit ?_
          refine blk_exit ?_
          have hq4 := Option.some.inj hL1
          subst hq4
          refine nrm_sub (l' := []) trivial ?_
          exact ⟨rfl, rfl, (Keep.of hB1).below, hC1⟩
    · rintro l2 _ w5 hs2 ⟨rfl, rfl, hB5, hC4⟩
      try dsimp only at hF
      refine nrm_sub' hs2 ?_
      clear hs2
      refine W_seq_reg ?_
      refine WL_assign rfl rfl ?_
      refine WL_nil ?_
      refine W_ret ?_
      have hq5 := Option.some.inj hF
      subst hq5
      refine fn_ret1 rfl rfl ?_
      exact ⟨_, rfl, bool_res hC4 _⟩

theorem c_Q_eqFact {w0 : World} (a1 : (Int × (List Int))) (u1 : Value) (g1 : RO [] w0 u1 a1.2) (a2 : (Int × (List Int))) (u2 : Value) (g2 : RO [] w0 u2 a2.2) (rr : Bool) (hF : Q.eqFact a1 a2 = some rr) :
    Calls Try.prog 78 [(.agg #[(.int .i64 a1.1), u1]), (.agg #[(.int .i64 a2.1), u2])].toArray w0 fun e w' => ∃ v, e = .returned v ∧ Res w0 rr v w' := by
  refine calls_of_W Try.func78 rfl rfl ?_
  have hC0 := Ctx.start w0
  unfold Q.eqFact at hF
  refine W_seq_reg ?_
  refine WL_box (cs := [(.int .i64 a1.1), u1]) hC0 rfl rfl rfl (fun b1 w1 hC1 hB1 => ?_)
  refine WL_box (cs := [(.int .i64 a2.1), u2]) hC1 rfl rfl rfl (fun b2 w2 hC2 hB2 => ?_)
  refine WL_assign rfl rfl ?_
  refine WL_nil ?_
  refine W_seq ?_
  refine W_seq_reg ?_
  refine WL_field Try.underlying77 rfl rfl (fun w => ⟨_, Try.sizeOf3 w⟩) rfl rfl ?_
  refine WL_load_box hC2 1 rfl rfl Try.isAgg3 rfl rfl ?_
  refine WL_field Try.underlying77 rfl rfl (fun w => ⟨_, Try.sizeOf3 w⟩) rfl rfl ?_
  refine WL_load_box hC2 0 rfl rfl Try.isAgg3 rfl rfl ?_
  refine WL_neq rfl rfl rfl ?_
  refine WL_nil ?_
  refine W_cond rfl (fun hc1 => ?_) (fun hc1 => ?_)
  · replace hF := ite_t hF hc1
    refine W_seq_reg ?_
    refine WL_assign rfl rfl ?_
    refine WL_nil ?_
    refine W_ret ?_
    refine nrm_ret ?_
    have hq1 := Option.some.inj hF
    subst hq1
    refine fn_ret1 rfl rfl ?_
    exact ⟨_, rfl, bool_res hC2 _⟩
  · replace hF := ite_f hF hc1
    refine W_skip ?_
    refine nrm_normal ?_
    refine W_seq ?_
    refine W_seq_reg ?_
    refine WL_field Try.underlying77 rfl rfl (fun w => ⟨_, Try.sizeOf22 w⟩) rfl rfl ?_
    refine WL_load_box hC2 1 rfl rfl Try.isAgg22 rfl rfl ?_
    refine WL_field Try.underlying77 rfl rfl (fun w => ⟨_, Try.sizeOf22 w⟩) rfl rfl ?_
    refine WL_load_box hC2 0 rfl rfl Try.isAgg22 rfl rfl ?_
    obtain ⟨x1, hr1, hF⟩ := bind_some hF
    refine WL_call Try.call19 rfl rfl (c_Q_eqIntS a1.2 u1 (g1.now hC2.keep) a2.2 u2 (g2.now hC2.keep) x1 hr1) ?_
    intro _ w3 hv1
    obtain ⟨rfl, hB3⟩ := res_bool hv1
    have hC3 := hC2.grow hB3
    refine WL_not rfl rfl ?_
    refine WL_nil ?_
    refine W_cond rfl (fun hc2 => ?_) (fun hc2 => ?_)
    · replace hF := ite_t hF hc2
      refine W_seq_reg ?_
      refine WL_assign rfl rfl ?_
      refine WL_nil ?_
      refine W_ret ?_
      refine nrm_ret ?_
      have hq2 := Option.some.inj hF
      subst hq2
      refine fn_ret1 rfl rfl ?_
      exact ⟨_, rfl, bool_res hC3 _⟩
    · replace hF := ite_f hF hc2
      refine W_skip ?_
      refine nrm_normal ?_
      refine W_seq_reg ?_
      refine WL_assign rfl rfl ?_
      refine WL_nil ?_
      refine W_ret ?_
      have hq3 := Option.some.inj hF
      subst hq3
      refine fn_ret1 rfl rfl ?_
      exact ⟨_, rfl, bool_res hC3 _⟩

theorem c_Q_eqFactS {w0 : World} (a1 : (List (Int × (List Int)))) (u1 : Value) (g1 : RO [] w0 u1 a1) (a2 : (List (Int × (List Int)))) (u2 : Value) (g2 : RO [] w0 u2 a2) (rr : Bool) (hF : Q.eqFactS a1 a2 = some rr) :
    Calls Try.prog 26 [u1, u2].toArray w0 fun e w' => ∃ v, e = .returned v ∧ Res w0 rr v w' := by
  refine calls_of_W Try.func26 rfl rfl ?_
  have hC0 := Ctx.start w0
  unfold Q.eqFactS at hF
  refine W_seq_reg ?_
  refine WL_assign rfl rfl ?_
  refine WL_nil ?_
  refine W_seq ?_
  refine W_seq_reg ?_
  refine WL_move rfl rfl ?_
  refine WL_len Try.underlying36 g1 rfl rfl ?_
  refine WL_move rfl rfl ?_
  refine WL_len Try.underlying36 g2 rfl rfl ?_
  refine WL_neq rfl rfl rfl ?_
  refine WL_nil ?_
  refine W_cond rfl (fun hc1 => ?_) (fun hc1 => ?_)
  · replace hF := ite_t hF hc1
    refine W_seq_reg ?_
    refine WL_assign rfl rfl ?_
    refine WL_nil ?_
    refine W_ret ?_
    refine nrm_ret ?_
    have hq1 := Option.some.inj hF
    subst hq1
    refine fn_ret1 rfl rfl ?_
    exact ⟨_, rfl, bool_res hC0 _⟩
  · replace hF := ite_f hF hc1
    refine W_skip ?_
    refine nrm_normal ?_
    refine W_seq ?_
    refine W_seq_reg ?_
    refine WL_assign rfl rfl ?_
    refine WL_nil ?_
    obtain ⟨r1, hr1, hF⟩ := bind_some hF
    refine W_norm (fun l w => .inl () = r1 ∧ l = [] ∧ Below w0.heap.size w0 w ∧ Ctx [] w0 w []) ?_ ?_
    · refine W_block ?_
      refine W.sub (l' := [(0, u1), (1, u2), (5, (.int .i64 0))]) ?_ ⟨rfl, rfl, rfl, trivial⟩
      refine W_loop (fun k l w => ∃ x1 : Int, l = [(0, u1), (1, u2), (5, (.int .i64 x1))] ∧ Below w0.heap.size w0 w ∧ Ctx [] w0 w [] ∧ Q.eqFactS_l1 a1 a2 k x1 = some r1) FUEL ⟨0, rfl, (Below.refl _ _), hC0, hr1⟩ ?_
      clear hr1
      rintro k1 _ w1 ⟨x1, rfl, hB1, hC1, hL1⟩
      cases k1 with
      | zero => rw [Q.eqFactS_l1] at hL1; cases hL1
      | succ k1 =>
        rw [Q.eqFactS_l1] at hL1
        refine W_seq ?_
        refine W_seq_reg ?_
        refine WL_move rfl rfl ?_
        refine WL_move rfl rfl ?_
        refine WL_len Try.underlying36 g1 rfl rfl ?_
        refine WL_lss rfl rfl rfl ?_
        refine WL_nil ?_
        refine W_cond rfl (fun hc2 => ?_) (fun hc2 => ?_)
        · replace hL1 := ite_t hL1 hc2
          refine W_skip ?_
          refine nrm_normal ?_
          refine W_seq ?_
          refine W_block ?_
          refine W_seq ?_
          refine W_drawn 10 rfl hmix (fun w2 hB2 => ?_)
          have hC2 := hC1.grow hB2
          refine WA_take 0 rfl (by kernel_rfl) (by kernel_rfl) (by kernel_rfl) rfl (fl_move rfl) ?_
          refine WL_move rfl rfl ?_
          refine WL_nil ?_
          refine WA_take 1 rfl (by kernel_rfl) (by kernel_rfl) (by kernel_rfl) rfl (fl_move rfl) ?_
          refine WL_move rfl rfl ?_
          refine WL_nil ?_
          obtain ⟨x2, hx1, hL1⟩ := bind_some hL1
          refine WA_take 2 rfl (by kernel_rfl) (by kernel_rfl) (by kernel_rfl) rfl (fl_index Try.underlying36 ty77 g1 hx1 rfl rfl) ?_
          refine WL_index Try.underlying36 ty77 g1 hx1 rfl rfl rfl (fun b1 o1 h1 => ?_)
          refine WL_nil ?_
          refine WA_take 4 rfl (by kernel_rfl) (by kernel_rfl) (by kernel_rfl) rfl (fl_move rfl) ?_
          refine WL_move rfl rfl ?_
          refine WL_nil ?_
          refine WA_take 5 rfl (by kernel_rfl) (by kernel_rfl) (by kernel_rfl) rfl (fl_move rfl) ?_
          refine WL_move rfl rfl ?_
          refine WL_nil ?_
          obtain ⟨x3, hx2, hL1⟩ := bind_some hL1
          refine WA_take 6 rfl (by kernel_rfl) (by kernel_rfl) (by kernel_rfl) rfl (fl_index Try.underlying36 ty77 g2 hx2 rfl rfl) ?_
          refine WL_index Try.underlying36 ty77 g2 hx2 rfl rfl rfl (fun b2 o2 h2 => ?_)
          refine WL_nil ?_
          refine WA.sub (l' := [(0, u1), (1, u2), (5, (.int .i64 x1)), (11, (.int .i64 x1)), (12, u1), (13, (.int .i64 (List.length a1 : Int))), (14, (.bool (decide (x1 < (List.length a1 : Int))))), (17, u1), (18, (.int .i64 x1)), (19, (ptr b1 o1)), (21, u2), (22, (.int .i64 x1)), (23, (ptr b2 o2))]) ?_ ⟨rfl, rfl, rfl, rfl, rfl, rfl, rfl, rfl, rfl, rfl, rfl, rfl, rfl, trivial⟩
          refine WA_postsE [⟨3, [], fun vs => PW.ro [] w0 x2, []⟩, ⟨7, [], fun vs => PW.ro [] w0 x3, []⟩] [[], []] 2 rfl (by kernel_rfl) (by kernel_rfl) rfl ?_ ?_
          · refine StepsE_cons rfl ?_ ?_
            · intro w3 hB3
              refine DepsE_nil ?_
              refine ⟨_, rfl, ?_⟩
              refine WL_load ty77 h1 (hC2.keep.then hB3) rfl rfl (fun v3 h5 => ?_)
              refine WL_nil ?_
              exact FinE_val (Below.refl _ _) rfl rfl ⟨rfl, h5⟩
            refine StepsE_cons rfl ?_ ?_
            · intro w3 hB3
              refine DepsE_nil ?_
              refine ⟨_, rfl, ?_⟩
              refine WL_load ty77 h2 (hC2.keep.then hB3) rfl rfl (fun v6 h8 => ?_)
              refine WL_nil ?_
              exact FinE_val (Below.refl _ _) rfl rfl ⟨rfl, h8⟩
            exact StepsE_nil
          · intro w4 hB4
            refine AllE_cons rfl rfl rfl ?_
            rintro v3 _ ⟨rfl, h5⟩
            obtain ⟨v2, rfl, h4⟩ := ro_st77 h5
            refine AllE_cons rfl rfl rfl ?_
            rintro v6 _ ⟨rfl, h8⟩
            obtain ⟨v5, rfl, h7⟩ := ro_st77 h8
            refine AllE_nil ?_
            intro hn1 hb1
            have hC3 := hC2.grow hB4
            obtain ⟨x4, hr2, hL1⟩ := bind_some hL1
            refine WA_one 8 (by kernel_rfl) rfl ?_
            refine WL_call Try.call78 rfl rfl (c_Q_eqFact x2 v2 (h4.now hC3.keep) x3 v5 (h7.now hC3.keep) x4 hr2) ?_
            intro _ w5 hv1
            obtain ⟨rfl, hB5⟩ := res_bool hv1
            have hC4 := hC3.grow hB5
            refine WL_nil ?_
            refine WA_take 9 rfl (by kernel_rfl) (by kernel_rfl) (by kernel_rfl) rfl (fl_not rfl) ?_
            refine WL_not rfl rfl ?_
            refine WL_nil ?_
            refine WA_done (by kernel_rfl) ?_
            refine nrm_normal ?_
            refine W_cond rfl (fun hc3 => ?_) (fun hc3 => ?_)
            · replace hL1 := ite_t hL1 hc3
              refine W_seq_reg ?_
              refine WL_assign rfl rfl ?_
              refine WL_nil ?_
              refine W_ret ?_
              refine blk_ret ?_
              refine nrm_ret ?_
              refine nrm_ret ?_
              refine blk_ret ?_
              refine nrm_ret ?_
              refine nrm_ret ?_
              have hq2 := Option.some.inj hL1
              subst hq2
              dsimp only at hF
              have hq3 := Option.some.inj hF
              subst hq3
              refine fn_ret1 rfl rfl ?_
              exact ⟨_, rfl, bool_res hC4 _⟩
            · replace hL1 := ite_f hL1 hc3
              refine W_skip ?_
              refine blk_normal ?_
              refine nrm_normal ?_
              refine W_reg ?_
              refine WL_move rfl rfl ?_
              refine WL_add rfl rfl rfl ?_
              refine WL_assign rfl rfl ?_
              refine WL_nil ?_
              refine nrm_sub (l' := [(0, u1), (1, u2), (5, (.int .i64 (w64 (x1 + 1))))]) ⟨rfl, rfl, rfl, trivial⟩ ?_
              exact ⟨k1, Nat.lt_succ_self _, w64 (x1 + 1), rfl, ((((Keep.of hB1).then hB2).then hB4).then hB5).below, hC4, hL1⟩
        · replace hL1 := ite_f hL1 hc2
          refine W_exit ?_
          refine nrm_exit ?_
          refine nrm_exit ?_
          refine blk_exit ?_
          have hq4 := Option.some.inj hL1
          subst hq4
          refine nrm_sub (l' := []) trivial ?_
          exact ⟨rfl, rfl, (Keep.of hB1).below, hC1⟩
    · rintro l2 _ w6 hs2 ⟨rfl, rfl, hB6, hC5⟩
      try dsimp only at hF
      refine nrm_sub' hs2 ?_
      clear hs2
      refine W_seq_reg ?_
      refine WL_assign rfl rfl ?_
      refine WL_nil ?_
      refine W_ret ?_
      have hq5 := Option.some.inj hF
      subst hq5
      refine fn_ret1 rfl rfl ?_
      exact ⟨_, rfl, bool_res hC5 _⟩

theorem c_Q_eqAccess {w0 : World} (a1 : (Int × (List Int))) (u1 : Value) (g1 : RO [] w0 u1 a1.2) (a2 : (Int × (List Int))) (u2 : Value) (g2 : RO [] w0 u2 a2.2) (rr : Bool) (hF : Q.eqAccess a1 a2 = some rr) :
    Calls Try.prog 64 [(.agg #[(.int .i64 a1.1), u1]), (.agg #[(.int .i64 a2.1), u2])].toArray w0 fun e w' => ∃ v, e = .returned v ∧ Res w0 rr v w' := by
  refine calls_of_W Try.func64 rfl rfl ?_
  have hC0 := Ctx.start w0
  unfold Q.eqAccess at hF
  refine W_seq_reg ?_
  refine WL_box (cs := [(.int .i64 a1.1), u1]) hC0 rfl rfl rfl (fun b1 w1 hC1 hB1 => ?_)
  refine WL_box (cs := [(.int .i64 a2.1), u2]) hC1 rfl rfl rfl (fun b2 w2 hC2 hB2 => ?_)
  refine WL_assign rfl rfl ?_
  refine WL_nil ?_
  refine W_seq ?_
  refine W_seq_reg ?_
  refine WL_field Try.underlying35 rfl rfl (fun w => ⟨_, Try.sizeOf3 w⟩) rfl rfl ?_
  refine WL_load_box hC2 1 rfl rfl Try.isAgg3 rfl rfl ?_
  refine WL_field Try.underlying35 rfl rfl (fun w => ⟨_, Try.sizeOf3 w⟩) rfl rfl ?_
  refine WL_load_box hC2 0 rfl rfl Try.isAgg3 rfl rfl ?_
  refine WL_neq rfl rfl rfl ?_
  refine WL_nil ?_
  refine W_cond rfl (fun hc1 => ?_) (fun hc1 => ?_)
  · replace hF := ite_t hF hc1
    refine W_seq_reg ?_
    refine WL_assign rfl rfl ?_
    refine WL_nil ?_
    refine W_ret ?_
    refine nrm_ret ?_
    have hq1 := Option.some.inj hF
    subst hq1
    refine fn_ret1 rfl rfl ?_
    exact ⟨_, rfl, bool_res hC2 _⟩
  · replace hF := ite_f hF hc1
    refine W_skip ?_
    refine nrm_normal ?_
    refine W_seq ?_
    refine W_seq_reg ?_
    refine WL_field Try.underlying35 rfl rfl (fun w => ⟨_, Try.sizeOf22 w⟩) rfl rfl ?_
    refine WL_load_box hC2 1 rfl rfl Try.isAgg22 rfl rfl ?_
    refine WL_field Try.underlying35 rfl rfl (fun w => ⟨_, Try.sizeOf22 w⟩) rfl rfl ?_
    refine WL_load_box hC2 0 rfl rfl Try.isAgg22 rfl rfl ?_
    obtain ⟨x1, hr1, hF⟩ := bind_some hF
    refine WL_call Try.call19 rfl rfl (c_Q_eqIntS a1.2 u1 (g1.now hC2.keep) a2.2 u2 (g2.now hC2.keep) x1 hr1) ?_
    intro _ w3 hv1
    obtain ⟨rfl, hB3⟩ := res_bool hv1
    have hC3 := hC2.grow hB3
    refine WL_not rfl rfl ?_
    refine WL_nil ?_
    refine W_cond rfl (fun hc2 => ?_) (fun hc2 => ?_)
    · replace hF := ite_t hF hc2
      refine W_seq_reg ?_
      refine WL_assign rfl rfl ?_
      refine WL_nil ?_
      refine W_ret ?_
      refine nrm_ret ?_
      have hq2 := Option.some.inj hF
      subst hq2
      refine fn_ret1 rfl rfl ?_
      exact ⟨_, rfl, bool_res hC3 _⟩
    · replace hF := ite_f hF hc2
      refine W_skip ?_
      refine nrm_normal ?_
      refine W_seq_reg ?_
      refine WL_assign rfl rfl ?_
      refine WL_nil ?_
      refine W_ret ?_
      have hq3 := Option.some.inj hF
      subst hq3
      refine fn_ret1 rfl rfl ?_
      exact ⟨_, rfl, bool_res hC3 _⟩

theorem c_Q_eqTold {w0 : World} (a1 : ((Int × (List Int)) × (List (Int × (List Int))))) (u1 : Value) (g1 : RO [] w0 u1 a1.1.2) (u2 : Value) (g2 : RO [] w0 u2 a1.2) (a2 : ((Int × (List Int)) × (List (Int × (List Int))))) (u3 : Value) (g3 : RO [] w0 u3 a2.1.2) (u4 : Value) (g4 : RO [] w0 u4 a2.2) (rr : Bool) (hF : Q.eqTold a1 a2 = some rr) :
    Calls Try.prog 21 [(.agg #[(.int .i64 a1.1.1), u1, u2]), (.agg #[(.int .i64 a2.1.1), u3, u4])].toArray w0 fun e w' => ∃ v, e = .returned v ∧ Res w0 rr v w' := by
  refine calls_of_W Try.func21 rfl rfl ?_
  have hC0 := Ctx.start w0
  unfold Q.eqTold at hF
  refine W_seq_reg ?_
  refine WL_box (cs := [(.int .i64 a1.1.1), u1, u2]) hC0 rfl rfl rfl (fun b1 w1 hC1 hB1 => ?_)
  refine WL_box (cs := [(.int .i64 a2.1.1), u3, u4]) hC1 rfl rfl rfl (fun b2 w2 hC2 hB2 => ?_)
  refine WL_assign rfl rfl ?_
  refine WL_nil ?_
  refine W_seq ?_
  refine W_seq_reg ?_
  refine WL_field Try.underlying38 rfl rfl (fun w => ⟨_, Try.sizeOf35 w⟩) rfl rfl ?_
  refine WL_load_box_agg [(.int .i64 a1.1.1), u1] hC2 1 rfl rfl rfl Try.isAgg35 Try.sizeOf35 rfl rfl ?_
  refine WL_field Try.underlying38 rfl rfl (fun w => ⟨_, Try.sizeOf35 w⟩) rfl rfl ?_
  refine WL_load_box_agg [(.int .i64 a2.1.1), u3] hC2 0 rfl rfl rfl Try.isAgg35 Try.sizeOf35 rfl rfl ?_
  obtain ⟨x1, hr1, hF⟩ := bind_some hF
  refine WL_call Try.call64 rfl rfl (c_Q_eqAccess (a1.1.1, a1.1.2) u1 (g1.now hC2.keep) (a2.1.1, a2.1.2) u3 (g3.now hC2.keep) x1 hr1) ?_
  intro _ w3 hv1
  obtain ⟨rfl, hB3⟩ := res_bool hv1
  have hC3 := hC2.grow hB3
  refine WL_not rfl rfl ?_
  refine WL_nil ?_
  refine W_cond rfl (fun hc1 => ?_) (fun hc1 => ?_)
  · replace hF := ite_t hF hc1
    refine W_seq_reg ?_
    refine WL_assign rfl rfl ?_
    refine WL_nil ?_
    refine W_ret ?_
    refine nrm_ret ?_
    have hq1 := Option.some.inj hF
    subst hq1
    refine fn_ret1 rfl rfl ?_
    exact ⟨_, rfl, bool_res hC3 _⟩
  · replace hF := ite_f hF hc1
    refine W_skip ?_
    refine nrm_normal ?_
    refine W_seq ?_
    refine W_seq_reg ?_
    refine WL_field Try.underlying38 rfl rfl (fun w => ⟨_, Try.sizeOf36 w⟩) rfl rfl ?_
    refine WL_load_box hC3 1 rfl rfl Try.isAgg36 rfl rfl ?_
    refine WL_field Try.underlying38 rfl rfl (fun w => ⟨_, Try.sizeOf36 w⟩) rfl rfl ?_
    refine WL_load_box hC3 0 rfl rfl Try.isAgg36 rfl rfl ?_
    obtain ⟨x2, hr2, hF⟩ := bind_some hF
    refine WL_call Try.call26 rfl rfl (c_Q_eqFactS a1.2 u2 (g2.now hC3.keep) a2.2 u4 (g4.now hC3.keep) x2 hr2) ?_
    intro _ w4 hv2
    obtain ⟨rfl, hB4⟩ := res_bool hv2
    have hC4 := hC3.grow hB4
    refine WL_not rfl rfl ?_
    refine WL_nil ?_
    refine W_cond rfl (fun hc2 => ?_) (fun hc2 => ?_)
    · replace hF := ite_t hF hc2
      refine W_seq_reg ?_
      refine WL_assign rfl rfl ?_
      refine WL_nil ?_
      refine W_ret ?_
      refine nrm_ret ?_
      have hq2 := Option.some.inj hF
      subst hq2
      refine fn_ret1 rfl rfl ?_
      exact ⟨_, rfl, bool_res hC4 _⟩
    · replace hF := ite_f hF hc2
      refine W_skip ?_
      refine nrm_normal ?_
      refine W_seq_reg ?_
      refine WL_assign rfl rfl ?_
      refine WL_nil ?_
      refine W_ret ?_
      have hq3 := Option.some.inj hF
      subst hq3
      refine fn_ret1 rfl rfl ?_
      exact ⟨_, rfl, bool_res hC4 _⟩

theorem c_Q_eqToldS {w0 : World} (a1 : (List ((Int × (List Int)) × (List (Int × (List Int)))))) (u1 : Value) (g1 : RO [] w0 u1 a1) (a2 : (List ((Int × (List Int)) × (List (Int × (List Int)))))) (u2 : Value) (g2 : RO [] w0 u2 a2) (rr : Bool) (hF : Q.eqToldS a1 a2 = some rr) :
    Calls Try.prog 27 [u1, u2].toArray w0 fun e w' => ∃ v, e = .returned v ∧ Res w0 rr v w' := by
  refine calls_of_W Try.func27 rfl rfl ?_
  have hC0 := Ctx.start w0
  unfold Q.eqToldS at hF
  refine W_seq_reg ?_
  refine WL_assign rfl rfl ?_
  refine WL_nil ?_
  refine W_seq ?_
  refine W_seq_reg ?_
  refine WL_move rfl rfl ?_
  refine WL_len Try.underlying47 g1 rfl rfl ?_
  refine WL_move rfl rfl ?_
  refine WL_len Try.underlying47 g2 rfl rfl ?_
  refine WL_neq rfl rfl rfl ?_
  refine WL_nil ?_
  refine W_cond rfl (fun hc1 => ?_) (fun hc1 => ?_)
  · replace hF := ite_t hF hc1
    refine W_seq_reg ?_
    refine WL_assign rfl rfl ?_
    refine WL_nil ?_
    refine W_ret ?_
    refine nrm_ret ?_
    have hq1 := Option.some.inj hF
    subst hq1
    refine fn_ret1 rfl rfl ?_
    exact ⟨_, rfl, bool_res hC0 _⟩
  · replace hF := ite_f hF hc1
    refine W_skip ?_
    refine nrm_normal ?_
    refine W_seq ?_
    refine W_seq_reg ?_
    refine WL_assign rfl rfl ?_
    refine WL_nil ?_
    obtain ⟨r1, hr1, hF⟩ := bind_some hF
    refine W_norm (fun l w => .inl () = r1 ∧ l = [] ∧ Below w0.heap.size w0 w ∧ Ctx [] w0 w []) ?_ ?_
    · refine W_block ?_
      refine W.sub (l' := [(0, u1), (1, u2), (5, (.int .i64 0))]) ?_ ⟨rfl, rfl, rfl, trivial⟩
      refine W_loop (fun k l w => ∃ x1 : Int, l = [(0, u1), (1, u2), (5, (.int .i64 x1))] ∧ Below w0.heap.size w0 w ∧ Ctx [] w0 w [] ∧ Q.eqToldS_l1 a1 a2 k x1 = some r1) FUEL ⟨0, rfl, (Below.refl _ _), hC0, hr1⟩ ?_
      clear hr1
      rintro k1 _ w1 ⟨x1, rfl, hB1, hC1, hL1⟩
      cases k1 with
      | zero => rw [Q.eqToldS_l1] at hL1; cases hL1
      | succ k1 =>
        rw [Q.eqToldS_l1] at hL1
        refine W_seq ?_
        refine W_seq_reg ?_
        refine WL_move rfl rfl ?_
        refine WL_move rfl rfl ?_
        refine WL_len Try.underlying47 g1 rfl rfl ?_
        refine WL_lss rfl rfl rfl ?_
        refine WL_nil ?_
        refine W_cond rfl (fun hc2 => ?_) (fun hc2 => ?_)
        · replace hL1 := ite_t hL1 hc2
          refine W_skip ?_
          refine nrm_normal ?_
          refine W_seq ?_
          refine W_block ?_
          refine W_seq ?_
          refine W_drawn 10 rfl hmix (fun w2 hB2 => ?_)
          have hC2 := hC1.grow hB2
          refine WA_take 0 rfl (by kernel_rfl) (by kernel_rfl) (by kernel_rfl) rfl (fl_move rfl) ?_
          refine WL_move rfl rfl ?_
          refine WL_nil ?_
          refine WA_take 1 rfl (by kernel_rfl) (by kernel_rfl) (by kernel_rfl) rfl (fl_move rfl) ?_
          refine WL_move rfl rfl ?_
          refine WL_nil ?_
          obtain ⟨x2, hx1, hL1⟩ := bind_some hL1
          refine WA_take 2 rfl (by kernel_rfl) (by kernel_rfl) (by kernel_rfl) rfl (fl_index Try.underlying47 ty38 g1 hx1 rfl rfl) ?_
          refine WL_index Try.underlying47 ty38 g1 hx1 rfl rfl rfl (fun b1 o1 h1 => ?_)
          refine WL_nil ?_
          refine WA_take 4 rfl (by kernel_rfl) (by kernel_rfl) (by kernel_rfl) rfl (fl_move rfl) ?_
          refine WL_move rfl rfl ?_
          refine WL_nil ?_
          refine WA_take 5 rfl (by kernel_rfl) (by kernel_rfl) (by kernel_rfl) rfl (fl_move rfl) ?_
          refine WL_move rfl rfl ?_
          refine WL_nil ?_
          obtain ⟨x3, hx2, hL1⟩ := bind_some hL1
          refine WA_take 6 rfl (by kernel_rfl) (by kernel_rfl) (by kernel_rfl) rfl (fl_index Try.underlying47 ty38 g2 hx2 rfl rfl) ?_
          refine WL_index Try.underlying47 ty38 g2 hx2 rfl rfl rfl (fun b2 o2 h2 => ?_)
          refine WL_nil ?_
          refine WA.sub (l' := [(0, u1), (1, u2), (5, (.int .i64 x1)), (11, (.int .i64 x1)), (12, u1), (13, (.int .i64 (List.length a1 : Int))), (14, (.bool (decide (x1 < (List.length a1 : Int))))), (17, u1), (18, (.int .i64 x1)), (19, (ptr b1 o1)), (21, u2), (22, (.int .i64 x1)), (23, (ptr b2 o2))]) ?_ ⟨rfl, rfl, rfl, rfl, rfl, rfl, rfl, rfl, rfl, rfl, rfl, rfl, rfl, trivial⟩
          refine WA_postsE [⟨3, [], fun vs => PW.ro [] w0 x2, []⟩, ⟨7, [], fun vs => PW.ro [] w0 x3, []⟩] [[], []] 2 rfl (by kernel_rfl) (by kernel_rfl) rfl ?_ ?_
          · refine StepsE_cons rfl ?_ ?_
            · intro w3 hB3
              refine DepsE_nil ?_
              refine ⟨_, rfl, ?_⟩
              refine WL_load ty38 h1 (hC2.keep.then hB3) rfl rfl (fun v4 h6 => ?_)
              refine WL_nil ?_
              exact FinE_val (Below.refl _ _) rfl rfl ⟨rfl, h6⟩
            refine StepsE_cons rfl ?_ ?_
            · intro w3 hB3
              refine DepsE_nil ?_
              refine ⟨_, rfl, ?_⟩
              refine WL_load ty38 h2 (hC2.keep.then hB3) rfl rfl (fun v8 h10 => ?_)
              refine WL_nil ?_
              exact FinE_val (Below.refl _ _) rfl rfl ⟨rfl, h10⟩
            exact StepsE_nil
          · intro w4 hB4
            refine AllE_cons rfl rfl rfl ?_
            rintro v4 _ ⟨rfl, h6⟩
            obtain ⟨v2, v3, rfl, h4, h5⟩ := ro_st38 h6
            refine AllE_cons rfl rfl rfl ?_
            rintro v8 _ ⟨rfl, h10⟩
            obtain ⟨v6, v7, rfl, h8, h9⟩ := ro_st38 h10
            refine AllE_nil ?_
            intro hn1 hb1
            have hC3 := hC2.grow hB4
            obtain ⟨x4, hr2, hL1⟩ := bind_some hL1
            refine WA_one 8 (by kernel_rfl) rfl ?_
            refine WL_call Try.call21 rfl rfl (c_Q_eqTold x2 v2 (h4.now hC3.keep) v3 (h5.now hC3.keep) x3 v6 (h8.now hC3.keep) v7 (h9.now hC3.keep) x4 hr2) ?_
            intro _ w5 hv1
            obtain ⟨rfl, hB5⟩ := res_bool hv1
            have hC4 := hC3.grow hB5
            refine WL_nil ?_
            refine WA_take 9 rfl (by kernel_rfl) (by kernel_rfl) (by kernel_rfl) rfl (fl_not rfl) ?_
            refine WL_not rfl rfl ?_
            refine WL_nil ?_
            refine WA_done (by kernel_rfl) ?_
            refine nrm_normal ?_
            refine W_cond rfl (fun hc3 => ?_) (fun hc3 => ?_)
            · replace hL1 := ite_t hL1 hc3
              refine W_seq_reg ?_
              refine WL_assign rfl rfl ?_
              refine WL_nil ?_
              refine W_ret ?_
              refine blk_ret ?_
              refine nrm_ret ?_
              refine nrm_ret ?_
              refine blk_ret ?_
              refine nrm_ret ?_
              refine nrm_ret ?_
              have hq2 := Option.some.inj hL1
              subst hq2
              dsimp only at hF
              have hq3 := Option.some.inj hF
              subst hq3
              refine fn_ret1 rfl rfl ?_
              exact ⟨_, rfl, bool_res hC4 _⟩
            · replace hL1 := ite_f hL1 hc3
              refine W_skip ?_
              refine blk_normal ?_
              refine nrm_normal ?_
              refine W_reg ?_
              refine WL_move rfl rfl ?_
              refine WL_add rfl rfl rfl ?_
              refine WL_assign rfl rfl ?_
              refine WL_nil ?_
              refine nrm_sub (l' := [(0, u1), (1, u2), (5, (.int .i64 (w64 (x1 + 1))))]) ⟨rfl, rfl, rfl, trivial⟩ ?_
              exact ⟨k1, Nat.lt_succ_self _, w64 (x1 + 1), rfl, ((((Keep.of hB1).then hB2).then hB4).then hB5).below, hC4, hL1⟩
        · replace hL1 := ite_f hL1 hc2
          refine W_exit ?_
          refine nrm_exit ?_
          refine nrm_exit ?_
          refine blk_exit ?_
          have hq4 := Option.some.inj hL1
          subst hq4
          refine nrm_sub (l' := []) trivial ?_
          exact ⟨rfl, rfl, (Keep.of hB1).below, hC1⟩
    · rintro l2 _ w6 hs2 ⟨rfl, rfl, hB6, hC5⟩
      try dsimp only at hF
      refine nrm_sub' hs2 ?_
      clear hs2
      refine W_seq_reg ?_
      refine WL_assign rfl rfl ?_
      refine WL_nil ?_
      refine W_ret ?_
      have hq5 := Option.some.inj hF
      subst hq5
      refine fn_ret1 rfl rfl ?_
      exact ⟨_, rfl, bool_res hC5 _⟩

theorem c_Q_markIntS {w0 : World} {Fs : List (List Nat)} (a1 : (List Int)) (u1 : Value) (a2 : Int) (hH : Hold [Item.own u1 (a1 : (List Int))] w0 Fs) (hn : Fs.flatten.Nodup) (rr : (Int × (List Int))) (hF : Q.markIntS a1 a2 = some rr) :
    Calls Try.prog 49 [u1, (.int .i64 a2)].toArray w0 fun e w' => ∃ v, e = .returned v ∧ v = (.int .i64 rr.1) ∧ Ctx Fs.flatten w0 w' [Item.own u1 (rr.2 : (List Int))] := by
  refine calls_of_W Try.func49 rfl rfl ?_
  have hC0 := Ctx.startIn hH hn
  unfold Q.markIntS at hF
  refine W_seq_reg ?_
  refine WL_assign rfl rfl ?_
  refine WL_nil ?_
  refine W_seq ?_
  refine W_seq_reg ?_
  refine WL_assign rfl rfl ?_
  refine WL_nil ?_
  obtain ⟨r1, hr1, hF⟩ := bind_some hF
  refine W_norm (fun l w => ∃ x4 : (List Int), ∃ x5 : Int, (x4, x5) = r1 ∧ l = [(1, (.int .i64 x5))] ∧ Ctx Fs.flatten w0 w [Item.own u1 (x4 : (List Int))]) ?_ ?_
  · refine W_block ?_
    refine W.sub (l' := [(0, u1), (1, (.int .i64 a2)), (5, (.int .i64 0))]) ?_ ⟨rfl, rfl, rfl, trivial⟩
    refine W_loop (fun k l w => ∃ x1 : (List Int), ∃ x2 : Int, ∃ x3 : Int, l = [(0, u1), (1, (.int .i64 x2)), (5, (.int .i64 x3))] ∧ Ctx Fs.flatten w0 w [Item.own u1 (x1 : (List Int))] ∧ Q.markIntS_l1 k x1 x2 x3 = some r1) FUEL ⟨a1, a2, 0, rfl, hC0, hr1⟩ ?_
    clear hr1
    rintro k1 _ w1 ⟨x1, x2, x3, rfl, hC1, hL1⟩
    cases k1 with
    | zero => rw [Q.markIntS_l1] at hL1; cases hL1
    | succ k1 =>
      rw [Q.markIntS_l1] at hL1
      refine W_seq ?_
      refine W_seq_reg ?_
      refine WL_move rfl rfl ?_
      refine WL_move rfl rfl ?_
      refine WL_len Try.underlying22 (hC1.ro 0 rfl) rfl rfl ?_
      refine WL_lss rfl rfl rfl ?_
      refine WL_nil ?_
      refine W_cond rfl (fun hc1 => ?_) (fun hc1 => ?_)
      · replace hL1 := ite_t hL1 hc1
        refine W_skip ?_
        refine nrm_normal ?_
        refine W_seq ?_
        refine W_block ?_
        refine W_seq_reg ?_
        refine WL_move rfl rfl ?_
        refine WL_move rfl rfl ?_
        refine WL_move rfl rfl ?_
        obtain ⟨x6, hx1, hL1⟩ := bind_some hL1
        refine WL_index_own hC1 0 rfl Try.underlying22 ty3 hx1 rfl rfl rfl (fun b1 hE1 => ?_)
        have hC3 := hC1.triv (int_val (x2))
        refine WL_store_elem hC3 0 rfl ty3 hE1 hx1 rfl rfl rfl (fun w2 hC2 => ?_)
        try dsimp only [List.set] at hC2
        refine WL_nil ?_
        refine W_reg ?_
        refine WL_move rfl rfl ?_
        refine WL_add rfl rfl rfl ?_
        refine WL_assign rfl rfl ?_
        refine WL_nil ?_
        refine blk_normal ?_
        refine nrm_normal ?_
        refine W_reg ?_
        refine WL_move rfl rfl ?_
        refine WL_add rfl rfl rfl ?_
        refine WL_assign rfl rfl ?_
        refine WL_nil ?_
        refine nrm_sub (l' := [(0, u1), (1, (.int .i64 (w64 (x2 + 1)))), (5, (.int .i64 (w64 (x3 + 1))))]) ⟨rfl, rfl, rfl, trivial⟩ ?_
        exact ⟨k1, Nat.lt_succ_self _, (List.set x1 (Int.toNat x3) x2), w64 (x2 + 1), w64 (x3 + 1), rfl, hC2, hL1⟩
      · replace hL1 := ite_f hL1 hc1
        refine W_exit ?_
        refine nrm_exit ?_
        refine nrm_exit ?_
        refine blk_exit ?_
        have hq1 := Option.some.inj hL1
        subst hq1
        refine nrm_sub (l' := [(1, (.int .i64 x2))]) ⟨rfl, trivial⟩ ?_
        exact ⟨x1, x2, rfl, rfl, hC1⟩
  · rintro l2 _ w3 hs2 ⟨x4, x5, rfl, rfl, hC4⟩
    try dsimp only at hF
    refine nrm_sub' hs2 ?_
    clear hs2
    refine W_seq_reg ?_
    refine WL_move rfl rfl ?_
    refine WL_assign rfl rfl ?_
    refine WL_nil ?_
    refine W_ret ?_
    have hq2 := Option.some.inj hF
    subst hq2
    refine fn_ret1 rfl rfl ?_
    exact ⟨_, rfl, rfl, hC4⟩

theorem c_Q_markFactS {w0 : World} {Fs : List (List Nat)} (a1 : (List (Int × (List Int)))) (u1 : Value) (a2 : Int) (hH : Hold [Item.own u1 (a1 : (List (Int × (List Int))))] w0 Fs) (hn : Fs.flatten.Nodup) (rr : (Int × (List (Int × (List Int))))) (hF : Q.markFactS a1 a2 = some rr) :
    Calls Try.prog 29 [u1, (.int .i64 a2)].toArray w0 fun e w' => ∃ v, e = .returned v ∧ v = (.int .i64 rr.1) ∧ Ctx Fs.flatten w0 w' [Item.own u1 (rr.2 : (List (Int × (List Int))))] := by
  refine calls_of_W Try.func29 rfl rfl ?_
  have hC0 := Ctx.startIn hH hn
  unfold Q.markFactS at hF
  refine W_seq_reg ?_
  refine WL_assign rfl rfl ?_
  refine WL_nil ?_
  refine W_seq ?_
  refine W_seq_reg ?_
  refine WL_assign rfl rfl ?_
  refine WL_nil ?_
  obtain ⟨r1, hr1, hF⟩ := bind_some hF
  refine W_norm (fun l w => ∃ x4 : (List (Int × (List Int))), ∃ x5 : Int, (x4, x5) = r1 ∧ l = [(1, (.int .i64 x5))] ∧ Ctx Fs.flatten w0 w [Item.own u1 (x4 : (List (Int × (List Int))))]) ?_ ?_
  · refine W_block ?_
    refine W.sub (l' := [(0, u1), (1, (.int .i64 a2)), (5, (.int .i64 0))]) ?_ ⟨rfl, rfl, rfl, trivial⟩
    refine W_loop (fun k l w => ∃ x1 : (List (Int × (List Int))), ∃ x2 : Int, ∃ x3 : Int, l = [(0, u1), (1, (.int .i64 x2)), (5, (.int .i64 x3))] ∧ Ctx Fs.flatten w0 w [Item.own u1 (x1 : (List (Int × (List Int))))] ∧ Q.markFactS_l1 k x1 x2 x3 = some r1) FUEL ⟨a1, a2, 0, rfl, hC0, hr1⟩ ?_
    clear hr1
    rintro k1 _ w1 ⟨x1, x2, x3, rfl, hC1, hL1⟩
    cases k1 with
    | zero => rw [Q.markFactS_l1] at hL1; cases hL1
    | succ k1 =>
      rw [Q.markFactS_l1] at hL1
      refine W_seq ?_
      refine W_seq_reg ?_
      refine WL_move rfl rfl ?_
      refine WL_move rfl rfl ?_
      refine WL_len Try.underlying36 (hC1.ro 0 rfl) rfl rfl ?_
      refine WL_lss rfl rfl rfl ?_
      refine WL_nil ?_
      refine W_cond rfl (fun hc1 => ?_) (fun hc1 => ?_)
      · replace hL1 := ite_t hL1 hc1
        refine W_skip ?_
        refine nrm_normal ?_
        refine W_seq ?_
        refine W_block ?_
        refine W_seq_reg ?_
        refine WL_move rfl rfl ?_
        refine WL_move rfl rfl ?_
        refine WL_move rfl rfl ?_
        obtain ⟨x6, hx1, hL1⟩ := bind_some hL1
        refine WL_index_own hC1 0 rfl Try.underlying36 ty77 hx1 rfl rfl rfl (fun b1 hE1 => ?_)
        refine WL_field Try.underlying77 rfl rfl (fun w => ⟨_, Try.sizeOf3 w⟩) rfl rfl ?_
        obtain ⟨cs1, hC3⟩ := hC1.openElem hx1
        obtain ⟨v1, he1, hC4⟩ := st77_own (hC3.cellsOwn rfl)
        obtain rfl := cells_of_agg he1
        refine WL_store_hole (fo := 0) (cs' := [(.int .i64 x2), v1]) hC4 1 rfl hE1 rfl rfl rfl rfl Try.sizeOf3 rfl rfl (fun w2 hC2 => ?_)
        try dsimp only [List.set] at hC2
        have hC5 : Ctx Fs.flatten w0 _ [Item.hole u1 (x1 : (List (Int × (List Int)))) (Int.toNat x3) [(.int .i64 x2), v1], Item.own v1 (x6.2 : (List Int))] := hC2.front 1 rfl
        have hC7 : Ctx Fs.flatten w0 _ [Item.own v1 (x6.2 : (List Int)), Item.hole u1 (x1 : (List (Int × (List Int)))) (Int.toNat x3) [(.int .i64 x2), v1]] := hC5.front 1 rfl
        have hC6 := own_st77 x2 v1 x6.2 hC7
        have hC8 := hC6.ownCells.closeElem
        refine WL_nil ?_
        refine W_seq_reg ?_
        refine WL_move rfl rfl ?_
        refine WL_add rfl rfl rfl ?_
        refine WL_assign rfl rfl ?_
        refine WL_nil ?_
        refine W_reg ?_
        refine WL_move rfl rfl ?_
        refine WL_move rfl rfl ?_
        obtain ⟨x7, hx2, hL1⟩ := bind_some hL1
        refine WL_index_own hC8 0 rfl Try.underlying36 ty77 hx2 rfl rfl rfl (fun b2 hE2 => ?_)
        refine WL_field Try.underlying77 rfl rfl (fun w => ⟨_, Try.sizeOf22 w⟩) rfl rfl ?_
        obtain ⟨cs2, hC9⟩ := hC8.openElem hx2
        obtain ⟨v2, he2, hC10⟩ := st77_own (hC9.cellsOwn rfl)
        obtain rfl := cells_of_agg he2
        refine WL_load_hole (fo := 1) hC10 1 rfl hE2 rfl rfl Try.isAgg22 rfl rfl ?_
        refine WL_move rfl rfl ?_
        obtain ⟨x8, hr2, hL1⟩ := bind_some hL1
        obtain ⟨Fs1, hH1, hn1, hF1, hO1, hb1⟩ := Ctx.lend2 (As := [Item.hole u1 ((List.set x1 (Int.toNat x3) (x2, x6.2)) : (List (Int × (List Int)))) (Int.toNat x3) [(.int .i64 x7.1), v2]]) [Item.own v2 (x7.2 : (List Int))] hC10
        refine WL_call Try.call49 rfl rfl (c_Q_markIntS x7.2 v2 (w64 (x2 + 1)) hH1 hn1 x8 hr2) ?_
        rintro _ w3 ⟨rfl, hq1⟩
        have hC12 : Ctx Fs.flatten w0 w3 [Item.own v2 (x8.2 : (List Int)), Item.hole u1 ((List.set x1 (Int.toNat x3) (x2, x6.2)) : (List (Int × (List Int)))) (Int.toNat x3) [(.int .i64 x7.1), v2]] := hb1 _ _ hq1
        have hC13 : Ctx Fs.flatten w0 _ [Item.hole u1 ((List.set x1 (Int.toNat x3) (x2, x6.2)) : (List (Int × (List Int)))) (Int.toNat x3) [(.int .i64 x7.1), v2], Item.own v2 (x8.2 : (List Int))] := hC12.front 1 rfl
        have hC15 : Ctx Fs.flatten w0 _ [Item.own v2 (x8.2 : (List Int)), Item.hole u1 ((List.set x1 (Int.toNat x3) (x2, x6.2)) : (List (Int × (List Int)))) (Int.toNat x3) [(.int .i64 x7.1), v2]] := hC13.front 1 rfl
        have hC14 := own_st77 x7.1 v2 x8.2 hC15
        have hC16 := hC14.ownCells.closeElem
        refine WL_assign rfl rfl ?_
        refine WL_nil ?_
        refine blk_normal ?_
        refine nrm_normal ?_
        refine W_reg ?_
        refine WL_move rfl rfl ?_
        refine WL_add rfl rfl rfl ?_
        refine WL_assign rfl rfl ?_
        refine WL_nil ?_
        refine nrm_sub (l' := [(0, u1), (1, (.int .i64 x8.1)), (5, (.int .i64 (w64 (x3 + 1))))]) ⟨rfl, rfl, rfl, trivial⟩ ?_
        exact ⟨k1, Nat.lt_succ_self _, (List.set (List.set x1 (Int.toNat x3) (x2, x6.2)) (Int.toNat x3) (x7.1, x8.2)), x8.1, w64 (x3 + 1), rfl, hC16, hL1⟩
      · replace hL1 := ite_f hL1 hc1
        refine W_exit ?_
        refine nrm_exit ?_
        refine nrm_exit ?_
        refine blk_exit ?_
        have hq2 := Option.some.inj hL1
        subst hq2
        refine nrm_sub (l' := [(1, (.int .i64 x2))]) ⟨rfl, trivial⟩ ?_
        exact ⟨x1, x2, rfl, rfl, hC1⟩
  · rintro l2 _ w4 hs2 ⟨x4, x5, rfl, rfl, hC17⟩
    try dsimp only at hF
    refine nrm_sub' hs2 ?_
    clear hs2
    refine W_seq_reg ?_
    refine WL_move rfl rfl ?_
    refine WL_assign rfl rfl ?_
    refine WL_nil ?_
    refine W_ret ?_
    have hq3 := Option.some.inj hF
    subst hq3
    refine fn_ret1 rfl rfl ?_
    exact ⟨_, rfl, rfl, hC17⟩

end Go.Gx.Px
