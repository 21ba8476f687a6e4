/- The contracts of the Go functions against the pure functions, printed by program. Conditions: each says them. -/
import Derived.Test.YtnccdhglieidhaaTy
import Derived.Test.YtnccdhglieidhaaPure
set_option linter.unusedVariables false
set_option linter.unusedSimpArgs false
set_option maxRecDepth 100000
namespace Go.Gx.Px
open Go.Proofs Go.RowKit

theorem c_S_CallsIn {w0 : World} (a1 : (List Int)) (u1 : Value) (g1 : RO [] w0 u1 a1) (a2 : Int) (a3 : Int) (rr : Int) (hF : S.CallsIn a1 a2 a3 = some rr) :
    Calls Try.prog 57 [u1, (.int .i64 a2), (.int .i64 a3)].toArray w0 fun e w' => ∃ v, e = .returned v ∧ Res w0 rr v w' := by
  refine calls_of_W Try.func57 rfl rfl ?_
  have hC0 := Ctx.start w0
  unfold S.CallsIn at hF
  refine W_seq_reg ?_
  refine WL_assign rfl rfl ?_
  refine WL_nil ?_
  refine W_seq_reg ?_
  refine WL_assign rfl rfl ?_
  refine WL_nil ?_
  refine W_seq ?_
  refine W_seq_reg ?_
  refine WL_assign rfl rfl ?_
  refine WL_nil ?_
  obtain ⟨r1, hr1, hF⟩ := bind_some hF
  refine W_norm (fun l w => ∃ x3 : Int, x3 = r1 ∧ l = [(7, (.int .i64 x3))] ∧ Below w0.heap.size w0 w ∧ Ctx [] w0 w []) ?_ ?_
  · refine W_block ?_
    refine W.sub (l' := [(0, u1), (1, (.int .i64 a2)), (2, (.int .i64 a3)), (7, (.int .i64 0)), (8, (.int .i64 0))]) ?_ ⟨rfl, rfl, rfl, rfl, rfl, trivial⟩
    refine W_loop (fun k l w => ∃ x1 : Int, ∃ x2 : Int, l = [(0, u1), (1, (.int .i64 a2)), (2, (.int .i64 a3)), (7, (.int .i64 x1)), (8, (.int .i64 x2))] ∧ Below w0.heap.size w0 w ∧ Ctx [] w0 w [] ∧ S.CallsIn_l1 a1 a2 a3 k x1 x2 = some r1) FUEL ⟨0, 0, rfl, (Below.refl _ _), hC0, hr1⟩ ?_
    clear hr1
    rintro k1 _ w1 ⟨x1, x2, rfl, hB1, hC1, hL1⟩
    cases k1 with
    | zero => rw [S.CallsIn_l1] at hL1; cases hL1
    | succ k1 =>
      rw [S.CallsIn_l1] at hL1
      refine W_seq ?_
      refine W_seq_reg ?_
      refine WL_move rfl rfl ?_
      refine WL_move rfl rfl ?_
      refine WL_len Try.underlying27 g1 rfl rfl ?_
      refine WL_lss rfl rfl rfl ?_
      refine WL_nil ?_
      refine W_cond rfl (fun hc1 => ?_) (fun hc1 => ?_)
      · replace hL1 := ite_t hL1 hc1
        refine W_skip ?_
        refine nrm_normal ?_
        refine W_seq ?_
        refine W_block ?_
        obtain ⟨r2, hr2, hL1⟩ := bind_some hL1
        refine W_cut (fun l w => ∃ x4 : Bool, x4 = r2 ∧ l = [(0, u1), (1, (.int .i64 a2)), (2, (.int .i64 a3)), (7, (.int .i64 x1)), (8, (.int .i64 x2)), (41, (.bool x4))] ∧ Below w1.heap.size w1 w ∧ Ctx [] w0 w []) ?_ ?_
        · refine W_reg ?_
          refine WL_move rfl rfl ?_
          refine WL_move rfl rfl ?_
          obtain ⟨x5, hx1, hr2⟩ := bind_some hr2
          refine WL_index Try.underlying27 ty3 g1 hx1 rfl rfl rfl (fun b1 o1 h1 => ?_)
          refine WL_load ty3 h1 hC1.keep rfl rfl (fun v1 h2 => ?_)
          obtain rfl := ro_int h2
          refine WL_move rfl rfl ?_
          refine WL_geq rfl rfl rfl ?_
          refine WL_move rfl rfl ?_
          refine WL_fork (fun hc2 => ?_) (fun hc2 => ?_)
          · replace hr2 := ite_t hr2 hc2
            refine WL_guard rfl rfl ?_
            refine WL_move rfl rfl ?_
            refine WL_guard rfl rfl ?_
            refine WL_move rfl rfl ?_
            obtain ⟨x6, hx2, hr2⟩ := bind_some hr2
            refine WL_guard rfl rfl ?_
            refine WL_index Try.underlying27 ty3 g1 hx2 rfl rfl rfl (fun b2 o2 h3 => ?_)
            refine WL_guard rfl rfl ?_
            refine WL_load ty3 h3 hC1.keep rfl rfl (fun v2 h4 => ?_)
            obtain rfl := ro_int h4
            refine WL_guard rfl rfl ?_
            refine WL_move rfl rfl ?_
            refine WL_guard rfl rfl ?_
            refine WL_sub rfl rfl rfl ?_
            refine WL_guard rfl rfl ?_
            refine WL_move rfl rfl ?_
            refine WL_guard rfl rfl ?_
            refine WL_lss rfl rfl rfl ?_
            refine WL_pick_t rfl rfl rfl ?_
            refine WL_move rfl rfl ?_
            refine WL_fork (fun hc3 => ?_) (fun hc3 => ?_)
            · replace hr2 := ite_t hr2 hc3
              refine WL_guard rfl rfl ?_
              refine WL_move rfl rfl ?_
              refine WL_guard rfl rfl ?_
              refine WL_move rfl rfl ?_
              obtain ⟨x7, hx3, hr2⟩ := bind_some hr2
              refine WL_guard rfl rfl ?_
              refine WL_index Try.underlying27 ty3 g1 hx3 rfl rfl rfl (fun b3 o3 h5 => ?_)
              refine WL_guard rfl rfl ?_
              refine WL_load ty3 h5 hC1.keep rfl rfl (fun v3 h6 => ?_)
              obtain rfl := ro_int h6
              refine WL_guard rfl rfl ?_
              refine WL_geq rfl rfl rfl ?_
              refine WL_pick_t rfl rfl rfl ?_
              refine WL_move rfl rfl ?_
              refine WL_fork (fun hc4 => ?_) (fun hc4 => ?_)
              · replace hr2 := ite_t hr2 hc4
                refine WL_guard rfl rfl ?_
                refine WL_move rfl rfl ?_
                refine WL_guard rfl rfl ?_
                refine WL_geq rfl rfl rfl ?_
                refine WL_pick_t rfl rfl rfl ?_
                refine WL_nil ?_
                have hq1 := Option.some.inj hr2
                subst hq1
                refine nrm_sub (l' := [(0, u1), (1, (.int .i64 a2)), (2, (.int .i64 a3)), (7, (.int .i64 x1)), (8, (.int .i64 x2)), (41, (.bool (decide (0 ≤ a2))))]) ⟨rfl, rfl, rfl, rfl, rfl, rfl, trivial⟩ ?_
                exact ⟨(decide (0 ≤ a2)), rfl, rfl, (Below.refl _ _), hC1⟩
              · replace hr2 := ite_f hr2 hc4
                refine WL_guard_skip rfl rfl (by simp) rfl ?_
                refine WL_guard_skip rfl rfl (by simp) rfl ?_
                refine WL_pick_f rfl rfl rfl ?_
                refine WL_nil ?_
                have hq2 := Option.some.inj hr2
                subst hq2
                refine nrm_sub (l' := [(0, u1), (1, (.int .i64 a2)), (2, (.int .i64 a3)), (7, (.int .i64 x1)), (8, (.int .i64 x2)), (41, (.bool false))]) ⟨rfl, rfl, rfl, rfl, rfl, rfl, trivial⟩ ?_
                exact ⟨false, rfl, rfl, (Below.refl _ _), hC1⟩
            · replace hr2 := ite_f hr2 hc3
              refine WL_guard_skip rfl rfl (by simp) rfl ?_
              refine WL_guard_skip rfl rfl (by simp) rfl ?_
              refine WL_guard_skip rfl rfl (by simp) rfl ?_
              refine WL_guard_skip rfl rfl (by simp) rfl ?_
              refine WL_guard_skip rfl rfl (by simp) rfl ?_
              refine WL_pick_f rfl rfl rfl ?_
              refine WL_move rfl rfl ?_
              refine WL_guard_skip rfl rfl (by simp) rfl ?_
              refine WL_guard_skip rfl rfl (by simp) rfl ?_
              refine WL_pick_f rfl rfl rfl ?_
              refine WL_nil ?_
              have hq3 := Option.some.inj hr2
              subst hq3
              refine nrm_sub (l' := [(0, u1), (1, (.int .i64 a2)), (2, (.int .i64 a3)), (7, (.int .i64 x1)), (8, (.int .i64 x2)), (41, (.bool false))]) ⟨rfl, rfl, rfl, rfl, rfl, rfl, trivial⟩ ?_
              exact ⟨false, rfl, rfl, (Below.refl _ _), hC1⟩
          · replace hr2 := ite_f hr2 hc2
            refine WL_guard_skip rfl rfl (by simp) rfl ?_
            refine WL_guard_skip rfl rfl (by simp) rfl ?_
            refine WL_guard_skip rfl rfl (by simp) rfl ?_
            refine WL_guard_skip rfl rfl (by simp) rfl ?_
            refine WL_guard_skip rfl rfl (by simp) rfl ?_
            refine WL_guard_skip rfl rfl (by simp) rfl ?_
            refine WL_guard_skip rfl rfl (by simp) rfl ?_
            refine WL_guard_skip rfl rfl (by simp) rfl ?_
            refine WL_pick_f rfl rfl rfl ?_
            refine WL_move rfl rfl ?_
            refine WL_guard_skip rfl rfl (by simp) rfl ?_
            refine WL_guard_skip rfl rfl (by simp) rfl ?_
            refine WL_guard_skip rfl rfl (by simp) rfl ?_
            refine WL_guard_skip rfl rfl (by simp) rfl ?_
            refine WL_guard_skip rfl rfl (by simp) rfl ?_
            refine WL_pick_f rfl rfl rfl ?_
            refine WL_move rfl rfl ?_
            refine WL_guard_skip rfl rfl (by simp) rfl ?_
            refine WL_guard_skip rfl rfl (by simp) rfl ?_
            refine WL_pick_f rfl rfl rfl ?_
            refine WL_nil ?_
            have hq4 := Option.some.inj hr2
            subst hq4
            refine nrm_sub (l' := [(0, u1), (1, (.int .i64 a2)), (2, (.int .i64 a3)), (7, (.int .i64 x1)), (8, (.int .i64 x2)), (41, (.bool false))]) ⟨rfl, rfl, rfl, rfl, rfl, rfl, trivial⟩ ?_
            exact ⟨false, rfl, rfl, (Below.refl _ _), hC1⟩
        · rintro _ w2 ⟨x4, rfl, rfl, hB2, hC2⟩
          try dsimp only at hL1
          obtain ⟨r3, hr3, hL1⟩ := bind_some hL1
          refine W_norm (fun l w => ∃ x8 : Int, x8 = r3 ∧ l = [(0, u1), (1, (.int .i64 a2)), (2, (.int .i64 a3)), (7, (.int .i64 x8)), (8, (.int .i64 x2))] ∧ Below w2.heap.size w2 w ∧ Ctx [] w0 w []) ?_ ?_
          · refine W_cond rfl (fun hc5 => ?_) (fun hc5 => ?_)
            · replace hr3 := ite_t hr3 hc5
              refine W_reg ?_
              refine WL_move rfl rfl ?_
              refine WL_add rfl rfl rfl ?_
              refine WL_assign rfl rfl ?_
              refine WL_nil ?_
              have hq5 := Option.some.inj hr3
              subst hq5
              refine nrm_sub (l' := [(0, u1), (1, (.int .i64 a2)), (2, (.int .i64 a3)), (7, (.int .i64 (w64 (x1 + 1)))), (8, (.int .i64 x2))]) ⟨rfl, rfl, rfl, rfl, rfl, trivial⟩ ?_
              exact ⟨w64 (x1 + 1), rfl, rfl, (Below.refl _ _), hC2⟩
            · replace hr3 := ite_f hr3 hc5
              refine W_skip ?_
              have hq6 := Option.some.inj hr3
              subst hq6
              refine nrm_sub (l' := [(0, u1), (1, (.int .i64 a2)), (2, (.int .i64 a3)), (7, (.int .i64 x1)), (8, (.int .i64 x2))]) ⟨rfl, rfl, rfl, rfl, rfl, trivial⟩ ?_
              exact ⟨x1, rfl, rfl, (Below.refl _ _), hC2⟩
          · rintro l3 _ w3 hs3 ⟨x8, rfl, rfl, hB3, hC3⟩
            try dsimp only at hL1
            refine blk_normal ?_
            refine nrm_sub' hs3 ?_
            clear hs3
            refine W_reg ?_
            refine WL_move rfl rfl ?_
            refine WL_add rfl rfl rfl ?_
            refine WL_assign rfl rfl ?_
            refine WL_nil ?_
            refine nrm_sub (l' := [(0, u1), (1, (.int .i64 a2)), (2, (.int .i64 a3)), (7, (.int .i64 x8)), (8, (.int .i64 (w64 (x2 + 1))))]) ⟨rfl, rfl, rfl, rfl, rfl, trivial⟩ ?_
            exact ⟨k1, Nat.lt_succ_self _, x8, w64 (x2 + 1), rfl, (((Keep.of hB1).then hB2).then hB3).below, hC3, hL1⟩
      · replace hL1 := ite_f hL1 hc1
        refine W_exit ?_
        refine nrm_exit ?_
        refine nrm_exit ?_
        refine blk_exit ?_
        have hq7 := Option.some.inj hL1
        subst hq7
        refine nrm_sub (l' := [(7, (.int .i64 x1))]) ⟨rfl, trivial⟩ ?_
        exact ⟨x1, rfl, rfl, (Keep.of hB1).below, hC1⟩
  · rintro l4 _ w4 hs4 ⟨x3, rfl, rfl, hB4, hC4⟩
    try dsimp only at hF
    refine nrm_sub' hs4 ?_
    clear hs4
    refine W_seq_reg ?_
    refine WL_move rfl rfl ?_
    refine WL_assign rfl rfl ?_
    refine WL_nil ?_
    refine W_ret ?_
    have hq8 := Option.some.inj hF
    subst hq8
    refine fn_ret1 rfl rfl ?_
    exact ⟨_, rfl, int_res hC4 _⟩

theorem c_S_l1In {w0 : World} (a1 : Int) (a2 : Int) (a3 : Int) (rr : Bool) (hF : S.l1In a1 a2 a3 = some rr) :
    Calls Try.prog 79 [(.int .i64 a1), (.int .i64 a2), (.int .i64 a3)].toArray w0 fun e w' => ∃ v, e = .returned v ∧ Res w0 rr v w' := by
  refine calls_of_W Try.func79 rfl rfl ?_
  have hC0 := Ctx.start w0
  unfold S.l1In at hF
  refine W_seq_reg ?_
  refine WL_assign rfl rfl ?_
  refine WL_nil ?_
  obtain ⟨r1, hr1, hF⟩ := bind_some hF
  refine W_cut (fun l w => ∃ x1 : Bool, x1 = r1 ∧ l = [(6, (.bool x1))] ∧ Below w0.heap.size w0 w ∧ Ctx [] w0 w []) ?_ ?_
  · refine W_reg ?_
    refine WL_move rfl rfl ?_
    refine WL_move rfl rfl ?_
    refine WL_geq rfl rfl rfl ?_
    refine WL_move rfl rfl ?_
    refine WL_fork (fun hc1 => ?_) (fun hc1 => ?_)
    · replace hr1 := ite_t hr1 hc1
      refine WL_guard rfl rfl ?_
      refine WL_move rfl rfl ?_
      refine WL_guard rfl rfl ?_
      refine WL_move rfl rfl ?_
      refine WL_guard rfl rfl ?_
      refine WL_leq rfl rfl rfl ?_
      refine WL_pick_t rfl rfl rfl ?_
      refine WL_assign rfl rfl ?_
      refine WL_nil ?_
      have hq1 := Option.some.inj hr1
      subst hq1
      refine nrm_sub (l' := [(6, (.bool (decide (a1 ≤ a3))))]) ⟨rfl, trivial⟩ ?_
      exact ⟨(decide (a1 ≤ a3)), rfl, rfl, (Below.refl _ _), hC0⟩
    · replace hr1 := ite_f hr1 hc1
      refine WL_guard_skip rfl rfl (by simp) rfl ?_
      refine WL_guard_skip rfl rfl (by simp) rfl ?_
      refine WL_guard_skip rfl rfl (by simp) rfl ?_
      refine WL_pick_f rfl rfl rfl ?_
      refine WL_assign rfl rfl ?_
      refine WL_nil ?_
      have hq2 := Option.some.inj hr1
      subst hq2
      refine nrm_sub (l' := [(6, (.bool false))]) ⟨rfl, trivial⟩ ?_
      exact ⟨false, rfl, rfl, (Below.refl _ _), hC0⟩
  · rintro _ w1 ⟨x1, rfl, rfl, hB1, hC1⟩
    try dsimp only at hF
    refine W_ret ?_
    have hq3 := Option.some.inj hF
    subst hq3
    refine fn_ret1 rfl rfl ?_
    exact ⟨_, rfl, bool_res hC1 _⟩

theorem c_S_IsWindow {w0 : World} (a1 : (Int × Int)) (rr : Bool) (hF : S.IsWindow a1 = some rr) :
    Calls Try.prog 64 [(.agg #[(.int .i64 a1.1), (.int .i64 a1.2)])].toArray w0 fun e w' => ∃ v, e = .returned v ∧ Res w0 rr v w' := by
  refine calls_of_W Try.func64 rfl rfl ?_
  have hC0 := Ctx.start w0
  unfold S.IsWindow at hF
  refine W_seq_reg ?_
  refine WL_box (cs := [(.int .i64 a1.1), (.int .i64 a1.2)]) hC0 rfl rfl rfl (fun b1 w1 hC1 hB1 => ?_)
  refine WL_assign rfl rfl ?_
  refine WL_nil ?_
  obtain ⟨r1, hr1, hF⟩ := bind_some hF
  refine W_cut (fun l w => ∃ x1 : Bool, x1 = r1 ∧ l = [(2, (.bool x1))] ∧ Below w1.heap.size w1 w ∧ Ctx [] w0 w []) ?_ ?_
  · refine W_reg ?_
    refine WL_field Try.underlying41 rfl rfl (fun w => ⟨_, Try.sizeOf3 w⟩) rfl rfl ?_
    refine WL_load_box hC1 0 rfl rfl Try.isAgg3 rfl rfl ?_
    obtain ⟨x2, hr2, hr1⟩ := bind_some hr1
    refine WL_call Try.call79 rfl rfl (c_S_l1In a1.1 1 100 x2 hr2) ?_
    intro _ w3 hv1
    obtain ⟨rfl, hB3⟩ := res_bool hv1
    have hC3 := hC1.grow hB3
    refine WL_move rfl rfl ?_
    refine WL_fork (fun hc1 => ?_) (fun hc1 => ?_)
    · replace hr1 := ite_t hr1 hc1
      refine WL_guard rfl rfl ?_
      refine WL_field Try.underlying41 rfl rfl (fun w => ⟨_, Try.sizeOf3 w⟩) rfl rfl ?_
      refine WL_guard rfl rfl ?_
      refine WL_load_box hC3 0 rfl rfl Try.isAgg3 rfl rfl ?_
      obtain ⟨x3, hr3, hr1⟩ := bind_some hr1
      refine WL_guard rfl rfl ?_
      refine WL_call Try.call79 rfl rfl (c_S_l1In a1.2 1 99 x3 hr3) ?_
      intro _ w4 hv2
      obtain ⟨rfl, hB4⟩ := res_bool hv2
      have hC4 := hC3.grow hB4
      refine WL_pick_t rfl rfl rfl ?_
      refine WL_assign rfl rfl ?_
      refine WL_nil ?_
      have hq1 := Option.some.inj hr1
      subst hq1
      have hC5 := hC4.headN 0
      dsimp only [List.take] at hC5
      refine nrm_sub (l' := [(2, (.bool x3))]) ⟨rfl, trivial⟩ ?_
      exact ⟨x3, rfl, rfl, ((Keep.of hB3).then hB4).below, hC5⟩
    · replace hr1 := ite_f hr1 hc1
      refine WL_guard_skip rfl rfl (by simp) rfl ?_
      refine WL_guard_skip rfl rfl (by simp) rfl ?_
      refine WL_guard_skip rfl rfl (by simp) rfl ?_
      refine WL_pick_f rfl rfl rfl ?_
      refine WL_assign rfl rfl ?_
      refine WL_nil ?_
      have hq2 := Option.some.inj hr1
      subst hq2
      have hC6 := hC3.headN 0
      dsimp only [List.take] at hC6
      refine nrm_sub (l' := [(2, (.bool false))]) ⟨rfl, trivial⟩ ?_
      exact ⟨false, rfl, rfl, (Keep.of hB3).below, hC6⟩
  · rintro _ w2 ⟨x1, rfl, rfl, hB2, hC2⟩
    try dsimp only at hF
    refine W_ret ?_
    have hq3 := Option.some.inj hF
    subst hq3
    refine fn_ret1 rfl rfl ?_
    exact ⟨_, rfl, bool_res hC2 _⟩

theorem c_S_l18Times {w0 : World} (a1 : (List Int)) (u1 : Value) (g1 : RO [] w0 u1 a1) (rr : Bool) (hF : S.l18Times a1 = some rr) :
    Calls Try.prog 102 [u1].toArray w0 fun e w' => ∃ v, e = .returned v ∧ Res w0 rr v w' := by
  refine calls_of_W Try.func102 rfl rfl ?_
  have hC0 := Ctx.start w0
  unfold S.l18Times at hF
  refine W_seq_reg ?_
  refine WL_assign rfl rfl ?_
  refine WL_nil ?_
  refine W_seq ?_
  refine W_seq_reg ?_
  refine WL_assign rfl rfl ?_
  refine WL_nil ?_
  obtain ⟨r1, hr1, hF⟩ := bind_some hF
  refine W_norm (fun l w => .inl () = r1 ∧ l = [(0, u1)] ∧ Below w0.heap.size w0 w ∧ Ctx [] w0 w []) ?_ ?_
  · refine W_block ?_
    refine W.sub (l' := [(0, u1), (3, (.int .i64 0))]) ?_ ⟨rfl, rfl, trivial⟩
    refine W_loop (fun k l w => ∃ x1 : Int, l = [(0, u1), (3, (.int .i64 x1))] ∧ Below w0.heap.size w0 w ∧ Ctx [] w0 w [] ∧ S.l18Times_l1 a1 k x1 = some r1) FUEL ⟨0, rfl, (Below.refl _ _), hC0, hr1⟩ ?_
    clear hr1
    rintro k1 _ w1 ⟨x1, rfl, hB1, hC1, hL1⟩
    cases k1 with
    | zero => rw [S.l18Times_l1] at hL1; cases hL1
    | succ k1 =>
      rw [S.l18Times_l1] at hL1
      refine W_seq ?_
      refine W_seq_reg ?_
      refine WL_move rfl rfl ?_
      refine WL_move rfl rfl ?_
      refine WL_len Try.underlying27 g1 rfl rfl ?_
      refine WL_lss rfl rfl rfl ?_
      refine WL_nil ?_
      refine W_cond rfl (fun hc1 => ?_) (fun hc1 => ?_)
      · replace hL1 := ite_t hL1 hc1
        refine W_skip ?_
        refine nrm_normal ?_
        refine W_seq ?_
        refine W_block ?_
        obtain ⟨r2, hr2, hL1⟩ := bind_some hL1
        refine W_cut (fun l w => ∃ x2 : Bool, x2 = r2 ∧ l = [(0, u1), (3, (.int .i64 x1)), (31, (.bool x2))] ∧ Below w1.heap.size w1 w ∧ Ctx [] w0 w []) ?_ ?_
        · obtain ⟨x3, hx1, hr2⟩ := bind_some hr2
          obtain ⟨x4, hr3, hr2⟩ := bind_some hr2
          rcases btf (!x4) with hc2 | hc2
          · replace hr2 := ite_t hr2 hc2
            refine W.sub (l' := [(0, u1), (3, (.int .i64 x1)), (4, (.int .i64 x1)), (5, u1), (6, (.int .i64 (List.length a1 : Int))), (7, (.bool (decide (x1 < (List.length a1 : Int)))))]) ?_ ⟨rfl, rfl, rfl, rfl, rfl, rfl, trivial⟩
            refine W_any 19 [PV.val u1, PV.val (.int .i64 x1), PV.at [] w0 x3, PV.val (.int .i64 x3), PV.val (.bool x4), PV.val (.bool (!x4)), PV.val (.bool true), PV.val undef, PV.val undef, PV.val undef, PV.val undef, PV.val undef, PV.val undef, PV.val undef, PV.val undef, PV.val undef, PV.val undef, PV.val undef, PV.val undef] [[], [], [0, 1], [2], [3], [4], [5], [6], [6, 7], [6, 8], [9], [9], [9, 10, 11], [9, 12], [9], [9], [9, 15], [9, 14, 16], [9, 17]] hmix (by kernel_rfl) rfl ?_ ?_
            · refine Steps_cons ?_ ?_
              · intro w4 hB4
                refine DepsK_nil ?_
                refine WL_move rfl rfl ?_
                refine WL_nil ?_
                exact Fin1_val (Below.refl _ _) rfl rfl ⟨rfl, rfl⟩
              refine Steps_cons ?_ ?_
              · intro w4 hB4
                refine DepsK_nil ?_
                refine WL_move rfl rfl ?_
                refine WL_nil ?_
                exact Fin1_val (Below.refl _ _) rfl rfl ⟨rfl, rfl⟩
              refine Steps_cons ?_ ?_
              · intro w4 hB4
                refine DepsK_cons rfl rfl ?_
                rintro _ _ ⟨rfl, rfl⟩
                refine DepsK_cons rfl rfl ?_
                rintro _ _ ⟨rfl, rfl⟩
                refine DepsK_nil ?_
                refine WL_index Try.underlying27 ty3 g1 hx1 rfl rfl rfl (fun b1 o1 h1 => ?_)
                refine WL_nil ?_
                exact Fin1_val (Below.refl _ _) rfl rfl ⟨rfl, _, _, rfl, h1⟩
              refine Steps_cons ?_ ?_
              · intro w4 hB4
                refine DepsK_cons rfl rfl ?_
                rintro _ _ ⟨rfl, b1, o1, rfl, h1⟩
                refine DepsK_nil ?_
                refine WL_load ty3 h1 (hC1.keep.then hB4) rfl rfl (fun v1 h2 => ?_)
                obtain rfl := ro_int h2
                refine WL_nil ?_
                exact Fin1_val (Below.refl _ _) rfl rfl ⟨rfl, rfl⟩
              refine Steps_cons ?_ ?_
              · intro w4 hB4
                refine DepsK_cons rfl rfl ?_
                rintro _ _ ⟨rfl, rfl⟩
                refine DepsK_nil ?_
                refine WL_call Try.call79 rfl rfl (c_S_l1In x3 0 10000 x4 hr3) ?_
                intro _ w3 hv1
                obtain ⟨rfl, hB3⟩ := res_bool hv1
                refine WL_nil ?_
                exact Fin1_val hB3 rfl rfl ⟨rfl, rfl⟩
              refine Steps_cons ?_ ?_
              · intro w4 hB4
                refine DepsK_cons rfl rfl ?_
                rintro _ _ ⟨rfl, rfl⟩
                refine DepsK_nil ?_
                refine WL_not rfl rfl ?_
                refine WL_nil ?_
                exact Fin1_val (Below.refl _ _) rfl rfl ⟨rfl, rfl⟩
              refine Steps_cons ?_ ?_
              · intro w4 hB4
                refine DepsK_cons rfl rfl ?_
                rintro _ _ ⟨rfl, rfl⟩
                refine DepsK_nil ?_
                refine WL_move rfl rfl ?_
                refine WL_known hc2 ?_
                refine WL_nil ?_
                exact Fin1_val (Below.refl _ _) rfl rfl ⟨rfl, rfl⟩
              refine Steps_cons ?_ ?_
              · intro w4 hB4
                refine DepsK_cons rfl rfl ?_
                rintro _ _ ⟨rfl, rfl⟩
                refine DepsK_nil ?_
                refine WL_guard_skip rfl rfl (by simp) rfl ?_
                refine WL_nil ?_
                exact Fin1_val (Below.refl _ _) rfl rfl ⟨rfl, rfl⟩
              refine Steps_cons ?_ ?_
              · intro w4 hB4
                refine DepsK_cons rfl rfl ?_
                rintro _ _ ⟨rfl, rfl⟩
                refine DepsK_cons rfl rfl ?_
                rintro _ _ ⟨rfl, rfl⟩
                refine DepsK_nil ?_
                refine WL_guard_skip rfl rfl (by simp) rfl ?_
                refine WL_nil ?_
                exact Fin1_val (Below.refl _ _) rfl rfl ⟨rfl, rfl⟩
              refine Steps_cons ?_ ?_
              · intro w4 hB4
                refine DepsK_cons rfl rfl ?_
                rintro _ _ ⟨rfl, rfl⟩
                refine DepsK_cons rfl rfl ?_
                rintro _ _ ⟨rfl, rfl⟩
                refine DepsK_nil ?_
                refine WL_guard_skip rfl rfl (by simp) rfl ?_
                refine WL_nil ?_
                exact Fin1_val (Below.refl _ _) rfl rfl ⟨rfl, rfl⟩
              refine Steps_cons ?_ ?_
              · intro w4 hB4
                refine DepsK_cons rfl rfl ?_
                rintro _ _ ⟨rfl, rfl⟩
                refine DepsK_nil ?_
                refine WL_guard_skip rfl rfl (by simp [undef]) rfl ?_
                refine WL_nil ?_
                exact Fin1_val (Below.refl _ _) rfl rfl ⟨rfl, rfl⟩
              refine Steps_cons ?_ ?_
              · intro w4 hB4
                refine DepsK_cons rfl rfl ?_
                rintro _ _ ⟨rfl, rfl⟩
                refine DepsK_nil ?_
                refine WL_guard_skip rfl rfl (by simp [undef]) rfl ?_
                refine WL_nil ?_
                exact Fin1_val (Below.refl _ _) rfl rfl ⟨rfl, rfl⟩
              refine Steps_cons ?_ ?_
              · intro w4 hB4
                refine DepsK_cons rfl rfl ?_
                rintro _ _ ⟨rfl, rfl⟩
                refine DepsK_cons rfl rfl ?_
                rintro _ _ ⟨rfl, rfl⟩
                refine DepsK_cons rfl rfl ?_
                rintro _ _ ⟨rfl, rfl⟩
                refine DepsK_nil ?_
                refine WL_guard_skip rfl rfl (by simp [undef]) rfl ?_
                refine WL_nil ?_
                exact Fin1_val (Below.refl _ _) rfl rfl ⟨rfl, rfl⟩
              refine Steps_cons ?_ ?_
              · intro w4 hB4
                refine DepsK_cons rfl rfl ?_
                rintro _ _ ⟨rfl, rfl⟩
                refine DepsK_cons rfl rfl ?_
                rintro _ _ ⟨rfl, rfl⟩
                refine DepsK_nil ?_
                refine WL_guard_skip rfl rfl (by simp [undef]) rfl ?_
                refine WL_nil ?_
                exact Fin1_val (Below.refl _ _) rfl rfl ⟨rfl, rfl⟩
              refine Steps_cons ?_ ?_
              · intro w4 hB4
                refine DepsK_cons rfl rfl ?_
                rintro _ _ ⟨rfl, rfl⟩
                refine DepsK_nil ?_
                refine WL_guard_skip rfl rfl (by simp [undef]) rfl ?_
                refine WL_nil ?_
                exact Fin1_val (Below.refl _ _) rfl rfl ⟨rfl, rfl⟩
              refine Steps_cons ?_ ?_
              · intro w4 hB4
                refine DepsK_cons rfl rfl ?_
                rintro _ _ ⟨rfl, rfl⟩
                refine DepsK_nil ?_
                refine WL_guard_skip rfl rfl (by simp [undef]) rfl ?_
                refine WL_nil ?_
                exact Fin1_val (Below.refl _ _) rfl rfl ⟨rfl, rfl⟩
              refine Steps_cons ?_ ?_
              · intro w4 hB4
                refine DepsK_cons rfl rfl ?_
                rintro _ _ ⟨rfl, rfl⟩
                refine DepsK_cons rfl rfl ?_
                rintro _ _ ⟨rfl, rfl⟩
                refine DepsK_nil ?_
                refine WL_guard_skip rfl rfl (by simp [undef]) rfl ?_
                refine WL_nil ?_
                exact Fin1_val (Below.refl _ _) rfl rfl ⟨rfl, rfl⟩
              refine Steps_cons ?_ ?_
              · intro w4 hB4
                refine DepsK_cons rfl rfl ?_
                rintro _ _ ⟨rfl, rfl⟩
                refine DepsK_cons rfl rfl ?_
                rintro _ _ ⟨rfl, rfl⟩
                refine DepsK_cons rfl rfl ?_
                rintro _ _ ⟨rfl, rfl⟩
                refine DepsK_nil ?_
                refine WL_guard_skip rfl rfl (by simp [undef]) rfl ?_
                refine WL_nil ?_
                exact Fin1_val (Below.refl _ _) rfl rfl ⟨rfl, rfl⟩
              refine Steps_cons ?_ ?_
              · intro w4 hB4
                refine DepsK_cons rfl rfl ?_
                rintro _ _ ⟨rfl, rfl⟩
                refine DepsK_cons rfl rfl ?_
                rintro _ _ ⟨rfl, rfl⟩
                refine DepsK_nil ?_
                refine WL_guard_skip rfl rfl (by simp [undef]) rfl ?_
                refine WL_nil ?_
                exact Fin1_val (Below.refl _ _) rfl rfl ⟨rfl, rfl⟩
              exact Steps_nil
            · intro w5 hB5
              refine AllK_cons rfl ?_
              rintro _ _ ⟨rfl, rfl⟩
              refine AllK_cons rfl ?_
              rintro _ _ ⟨rfl, rfl⟩
              refine AllK_cons rfl ?_
              rintro _ _ ⟨rfl, b1, o1, rfl, h1⟩
              refine AllK_cons rfl ?_
              rintro _ _ ⟨rfl, rfl⟩
              refine AllK_cons rfl ?_
              rintro _ _ ⟨rfl, rfl⟩
              refine AllK_cons rfl ?_
              rintro _ _ ⟨rfl, rfl⟩
              refine AllK_cons rfl ?_
              rintro _ _ ⟨rfl, rfl⟩
              refine AllK_cons rfl ?_
              rintro _ _ ⟨rfl, rfl⟩
              refine AllK_cons rfl ?_
              rintro _ _ ⟨rfl, rfl⟩
              refine AllK_cons rfl ?_
              rintro _ _ ⟨rfl, rfl⟩
              refine AllK_cons rfl ?_
              rintro _ _ ⟨rfl, rfl⟩
              refine AllK_cons rfl ?_
              rintro _ _ ⟨rfl, rfl⟩
              refine AllK_cons rfl ?_
              rintro _ _ ⟨rfl, rfl⟩
              refine AllK_cons rfl ?_
              rintro _ _ ⟨rfl, rfl⟩
              refine AllK_cons rfl ?_
              rintro _ _ ⟨rfl, rfl⟩
              refine AllK_cons rfl ?_
              rintro _ _ ⟨rfl, rfl⟩
              refine AllK_cons rfl ?_
              rintro _ _ ⟨rfl, rfl⟩
              refine AllK_cons rfl ?_
              rintro _ _ ⟨rfl, rfl⟩
              refine AllK_cons rfl ?_
              rintro _ _ ⟨rfl, rfl⟩
              refine AllK_nil ?_
              intro hn1 hb1
              have hC3 := hC1.grow hB5
              refine WL_guard_skip rfl rfl (by simp [undef]) rfl ?_
              refine WL_guard_skip rfl rfl (by simp) rfl ?_
              refine WL_pick_t rfl rfl rfl ?_
              refine WL_nil ?_
              have hq1 := Option.some.inj hr2
              subst hq1
              refine nrm_sub (l' := [(0, u1), (3, (.int .i64 x1)), (31, (.bool true))]) ⟨rfl, rfl, rfl, trivial⟩ ?_
              exact ⟨true, rfl, rfl, (Keep.of hB5).below, hC3⟩
          · replace hr2 := ite_f hr2 hc2
            rcases btf (decide (0 < x1)) with hc3 | hc3
            · replace hr2 := ite_t hr2 hc3
              obtain ⟨x5, hx2, hr2⟩ := bind_some hr2
              obtain ⟨x6, hx3, hr2⟩ := bind_some hr2
              refine W.sub (l' := [(0, u1), (3, (.int .i64 x1)), (4, (.int .i64 x1)), (5, u1), (6, (.int .i64 (List.length a1 : Int))), (7, (.bool (decide (x1 < (List.length a1 : Int)))))]) ?_ ⟨rfl, rfl, rfl, rfl, rfl, rfl, trivial⟩
              refine W_any 19 [PV.val u1, PV.val (.int .i64 x1), PV.at [] w0 x3, PV.val (.int .i64 x3), PV.val (.bool x4), PV.val (.bool (!x4)), PV.val (.bool false), PV.val (.int .i64 x1), PV.val (.bool (decide (0 < x1))), PV.val (.bool true), PV.val u1, PV.val (.int .i64 x1), PV.at [] w0 x5, PV.val (.int .i64 x5), PV.val u1, PV.val (.int .i64 x1), PV.val (.int .i64 (w64 (x1 - 1))), PV.at [] w0 x6, PV.val (.int .i64 x6)] [[], [], [0, 1], [2], [3], [4], [5], [6], [6, 7], [6, 8], [9], [9], [9, 10, 11], [9, 12], [9], [9], [9, 15], [9, 14, 16], [9, 17]] hmix (by kernel_rfl) rfl ?_ ?_
              · refine Steps_cons ?_ ?_
                · intro w6 hB6
                  refine DepsK_nil ?_
                  refine WL_move rfl rfl ?_
                  refine WL_nil ?_
                  exact Fin1_val (Below.refl _ _) rfl rfl ⟨rfl, rfl⟩
                refine Steps_cons ?_ ?_
                · intro w6 hB6
                  refine DepsK_nil ?_
                  refine WL_move rfl rfl ?_
                  refine WL_nil ?_
                  exact Fin1_val (Below.refl _ _) rfl rfl ⟨rfl, rfl⟩
                refine Steps_cons ?_ ?_
                · intro w6 hB6
                  refine DepsK_cons rfl rfl ?_
                  rintro _ _ ⟨rfl, rfl⟩
                  refine DepsK_cons rfl rfl ?_
                  rintro _ _ ⟨rfl, rfl⟩
                  refine DepsK_nil ?_
                  refine WL_index Try.underlying27 ty3 g1 hx1 rfl rfl rfl (fun b1 o1 h1 => ?_)
                  refine WL_nil ?_
                  exact Fin1_val (Below.refl _ _) rfl rfl ⟨rfl, _, _, rfl, h1⟩
                refine Steps_cons ?_ ?_
                · intro w6 hB6
                  refine DepsK_cons rfl rfl ?_
                  rintro _ _ ⟨rfl, b1, o1, rfl, h1⟩
                  refine DepsK_nil ?_
                  refine WL_load ty3 h1 (hC1.keep.then hB6) rfl rfl (fun v1 h2 => ?_)
                  obtain rfl := ro_int h2
                  refine WL_nil ?_
                  exact Fin1_val (Below.refl _ _) rfl rfl ⟨rfl, rfl⟩
                refine Steps_cons ?_ ?_
                · intro w6 hB6
                  refine DepsK_cons rfl rfl ?_
                  rintro _ _ ⟨rfl, rfl⟩
                  refine DepsK_nil ?_
                  refine WL_call Try.call79 rfl rfl (c_S_l1In x3 0 10000 x4 hr3) ?_
                  intro _ w3 hv1
                  obtain ⟨rfl, hB3⟩ := res_bool hv1
                  refine WL_nil ?_
                  exact Fin1_val hB3 rfl rfl ⟨rfl, rfl⟩
                refine Steps_cons ?_ ?_
                · intro w6 hB6
                  refine DepsK_cons rfl rfl ?_
                  rintro _ _ ⟨rfl, rfl⟩
                  refine DepsK_nil ?_
                  refine WL_not rfl rfl ?_
                  refine WL_nil ?_
                  exact Fin1_val (Below.refl _ _) rfl rfl ⟨rfl, rfl⟩
                refine Steps_cons ?_ ?_
                · intro w6 hB6
                  refine DepsK_cons rfl rfl ?_
                  rintro _ _ ⟨rfl, rfl⟩
                  refine DepsK_nil ?_
                  refine WL_move rfl rfl ?_
                  refine WL_known hc2 ?_
                  refine WL_nil ?_
                  exact Fin1_val (Below.refl _ _) rfl rfl ⟨rfl, rfl⟩
                refine Steps_cons ?_ ?_
                · intro w6 hB6
                  refine DepsK_cons rfl rfl ?_
                  rintro _ _ ⟨rfl, rfl⟩
                  refine DepsK_nil ?_
                  refine WL_guard rfl rfl ?_
                  refine WL_move rfl rfl ?_
                  refine WL_nil ?_
                  exact Fin1_val (Below.refl _ _) rfl rfl ⟨rfl, rfl⟩
                refine Steps_cons ?_ ?_
                · intro w6 hB6
                  refine DepsK_cons rfl rfl ?_
                  rintro _ _ ⟨rfl, rfl⟩
                  refine DepsK_cons rfl rfl ?_
                  rintro _ _ ⟨rfl, rfl⟩
                  refine DepsK_nil ?_
                  refine WL_guard rfl rfl ?_
                  refine WL_gtr rfl rfl rfl ?_
                  refine WL_nil ?_
                  exact Fin1_val (Below.refl _ _) rfl rfl ⟨rfl, rfl⟩
                refine Steps_cons ?_ ?_
                · intro w6 hB6
                  refine DepsK_cons rfl rfl ?_
                  rintro _ _ ⟨rfl, rfl⟩
                  refine DepsK_cons rfl rfl ?_
                  rintro _ _ ⟨rfl, rfl⟩
                  refine DepsK_nil ?_
                  refine WL_guard rfl rfl ?_
                  refine WL_move rfl rfl ?_
                  refine WL_known hc3 ?_
                  refine WL_nil ?_
                  exact Fin1_val (Below.refl _ _) rfl rfl ⟨rfl, rfl⟩
                refine Steps_cons ?_ ?_
                · intro w6 hB6
                  refine DepsK_cons rfl rfl ?_
                  rintro _ _ ⟨rfl, rfl⟩
                  refine DepsK_nil ?_
                  refine WL_guard rfl rfl ?_
                  refine WL_move rfl rfl ?_
                  refine WL_nil ?_
                  exact Fin1_val (Below.refl _ _) rfl rfl ⟨rfl, rfl⟩
                refine Steps_cons ?_ ?_
                · intro w6 hB6
                  refine DepsK_cons rfl rfl ?_
                  rintro _ _ ⟨rfl, rfl⟩
                  refine DepsK_nil ?_
                  refine WL_guard rfl rfl ?_
                  refine WL_move rfl rfl ?_
                  refine WL_nil ?_
                  exact Fin1_val (Below.refl _ _) rfl rfl ⟨rfl, rfl⟩
                refine Steps_cons ?_ ?_
                · intro w6 hB6
                  refine DepsK_cons rfl rfl ?_
                  rintro _ _ ⟨rfl, rfl⟩
                  refine DepsK_cons rfl rfl ?_
                  rintro _ _ ⟨rfl, rfl⟩
                  refine DepsK_cons rfl rfl ?_
                  rintro _ _ ⟨rfl, rfl⟩
                  refine DepsK_nil ?_
                  refine WL_guard rfl rfl ?_
                  refine WL_index Try.underlying27 ty3 g1 hx2 rfl rfl rfl (fun b2 o2 h3 => ?_)
                  refine WL_nil ?_
                  exact Fin1_val (Below.refl _ _) rfl rfl ⟨rfl, _, _, rfl, h3⟩
                refine Steps_cons ?_ ?_
                · intro w6 hB6
                  refine DepsK_cons rfl rfl ?_
                  rintro _ _ ⟨rfl, rfl⟩
                  refine DepsK_cons rfl rfl ?_
                  rintro _ _ ⟨rfl, b2, o2, rfl, h3⟩
                  refine DepsK_nil ?_
                  refine WL_guard rfl rfl ?_
                  refine WL_load ty3 h3 (hC1.keep.then hB6) rfl rfl (fun v14 h4 => ?_)
                  obtain rfl := ro_int h4
                  refine WL_nil ?_
                  exact Fin1_val (Below.refl _ _) rfl rfl ⟨rfl, rfl⟩
                refine Steps_cons ?_ ?_
                · intro w6 hB6
                  refine DepsK_cons rfl rfl ?_
                  rintro _ _ ⟨rfl, rfl⟩
                  refine DepsK_nil ?_
                  refine WL_guard rfl rfl ?_
                  refine WL_move rfl rfl ?_
                  refine WL_nil ?_
                  exact Fin1_val (Below.refl _ _) rfl rfl ⟨rfl, rfl⟩
                refine Steps_cons ?_ ?_
                · intro w6 hB6
                  refine DepsK_cons rfl rfl ?_
                  rintro _ _ ⟨rfl, rfl⟩
                  refine DepsK_nil ?_
                  refine WL_guard rfl rfl ?_
                  refine WL_move rfl rfl ?_
                  refine WL_nil ?_
                  exact Fin1_val (Below.refl _ _) rfl rfl ⟨rfl, rfl⟩
                refine Steps_cons ?_ ?_
                · intro w6 hB6
                  refine DepsK_cons rfl rfl ?_
                  rintro _ _ ⟨rfl, rfl⟩
                  refine DepsK_cons rfl rfl ?_
                  rintro _ _ ⟨rfl, rfl⟩
                  refine DepsK_nil ?_
                  refine WL_guard rfl rfl ?_
                  refine WL_sub rfl rfl rfl ?_
                  refine WL_nil ?_
                  exact Fin1_val (Below.refl _ _) rfl rfl ⟨rfl, rfl⟩
                refine Steps_cons ?_ ?_
                · intro w6 hB6
                  refine DepsK_cons rfl rfl ?_
                  rintro _ _ ⟨rfl, rfl⟩
                  refine DepsK_cons rfl rfl ?_
                  rintro _ _ ⟨rfl, rfl⟩
                  refine DepsK_cons rfl rfl ?_
                  rintro _ _ ⟨rfl, rfl⟩
                  refine DepsK_nil ?_
                  refine WL_guard rfl rfl ?_
                  refine WL_index Try.underlying27 ty3 g1 hx3 rfl rfl rfl (fun b3 o3 h5 => ?_)
                  refine WL_nil ?_
                  exact Fin1_val (Below.refl _ _) rfl rfl ⟨rfl, _, _, rfl, h5⟩
                refine Steps_cons ?_ ?_
                · intro w6 hB6
                  refine DepsK_cons rfl rfl ?_
                  rintro _ _ ⟨rfl, rfl⟩
                  refine DepsK_cons rfl rfl ?_
                  rintro _ _ ⟨rfl, b3, o3, rfl, h5⟩
                  refine DepsK_nil ?_
                  refine WL_guard rfl rfl ?_
                  refine WL_load ty3 h5 (hC1.keep.then hB6) rfl rfl (fun v15 h6 => ?_)
                  obtain rfl := ro_int h6
                  refine WL_nil ?_
                  exact Fin1_val (Below.refl _ _) rfl rfl ⟨rfl, rfl⟩
                exact Steps_nil
              · intro w7 hB7
                refine AllK_cons rfl ?_
                rintro _ _ ⟨rfl, rfl⟩
                refine AllK_cons rfl ?_
                rintro _ _ ⟨rfl, rfl⟩
                refine AllK_cons rfl ?_
                rintro _ _ ⟨rfl, b1, o1, rfl, h1⟩
                refine AllK_cons rfl ?_
                rintro _ _ ⟨rfl, rfl⟩
                refine AllK_cons rfl ?_
                rintro _ _ ⟨rfl, rfl⟩
                refine AllK_cons rfl ?_
                rintro _ _ ⟨rfl, rfl⟩
                refine AllK_cons rfl ?_
                rintro _ _ ⟨rfl, rfl⟩
                refine AllK_cons rfl ?_
                rintro _ _ ⟨rfl, rfl⟩
                refine AllK_cons rfl ?_
                rintro _ _ ⟨rfl, rfl⟩
                refine AllK_cons rfl ?_
                rintro _ _ ⟨rfl, rfl⟩
                refine AllK_cons rfl ?_
                rintro _ _ ⟨rfl, rfl⟩
                refine AllK_cons rfl ?_
                rintro _ _ ⟨rfl, rfl⟩
                refine AllK_cons rfl ?_
                rintro _ _ ⟨rfl, b2, o2, rfl, h3⟩
                refine AllK_cons rfl ?_
                rintro _ _ ⟨rfl, rfl⟩
                refine AllK_cons rfl ?_
                rintro _ _ ⟨rfl, rfl⟩
                refine AllK_cons rfl ?_
                rintro _ _ ⟨rfl, rfl⟩
                refine AllK_cons rfl ?_
                rintro _ _ ⟨rfl, rfl⟩
                refine AllK_cons rfl ?_
                rintro _ _ ⟨rfl, b3, o3, rfl, h5⟩
                refine AllK_cons rfl ?_
                rintro _ _ ⟨rfl, rfl⟩
                refine AllK_nil ?_
                intro hn2 hb2
                have hC4 := hC1.grow hB7
                refine WL_guard rfl rfl ?_
                refine WL_lss rfl rfl rfl ?_
                refine WL_guard rfl rfl ?_
                refine WL_pick_t rfl rfl rfl ?_
                refine WL_pick_f rfl rfl rfl ?_
                refine WL_nil ?_
                have hq2 := Option.some.inj hr2
                subst hq2
                refine nrm_sub (l' := [(0, u1), (3, (.int .i64 x1)), (31, (.bool (decide (x5 < x6))))]) ⟨rfl, rfl, rfl, trivial⟩ ?_
                exact ⟨(decide (x5 < x6)), rfl, rfl, (Keep.of hB7).below, hC4⟩
            · replace hr2 := ite_f hr2 hc3
              refine W.sub (l' := [(0, u1), (3, (.int .i64 x1)), (4, (.int .i64 x1)), (5, u1), (6, (.int .i64 (List.length a1 : Int))), (7, (.bool (decide (x1 < (List.length a1 : Int)))))]) ?_ ⟨rfl, rfl, rfl, rfl, rfl, rfl, trivial⟩
              refine W_any 19 [PV.val u1, PV.val (.int .i64 x1), PV.at [] w0 x3, PV.val (.int .i64 x3), PV.val (.bool x4), PV.val (.bool (!x4)), PV.val (.bool false), PV.val (.int .i64 x1), PV.val (.bool (decide (0 < x1))), PV.val (.bool false), PV.val undef, PV.val undef, PV.val undef, PV.val undef, PV.val undef, PV.val undef, PV.val undef, PV.val undef, PV.val undef] [[], [], [0, 1], [2], [3], [4], [5], [6], [6, 7], [6, 8], [9], [9], [9, 10, 11], [9, 12], [9], [9], [9, 15], [9, 14, 16], [9, 17]] hmix (by kernel_rfl) rfl ?_ ?_
              · refine Steps_cons ?_ ?_
                · intro w8 hB8
                  refine DepsK_nil ?_
                  refine WL_move rfl rfl ?_
                  refine WL_nil ?_
                  exact Fin1_val (Below.refl _ _) rfl rfl ⟨rfl, rfl⟩
                refine Steps_cons ?_ ?_
                · intro w8 hB8
                  refine DepsK_nil ?_
                  refine WL_move rfl rfl ?_
                  refine WL_nil ?_
                  exact Fin1_val (Below.refl _ _) rfl rfl ⟨rfl, rfl⟩
                refine Steps_cons ?_ ?_
                · intro w8 hB8
                  refine DepsK_cons rfl rfl ?_
                  rintro _ _ ⟨rfl, rfl⟩
                  refine DepsK_cons rfl rfl ?_
                  rintro _ _ ⟨rfl, rfl⟩
                  refine DepsK_nil ?_
                  refine WL_index Try.underlying27 ty3 g1 hx1 rfl rfl rfl (fun b1 o1 h1 => ?_)
                  refine WL_nil ?_
                  exact Fin1_val (Below.refl _ _) rfl rfl ⟨rfl, _, _, rfl, h1⟩
                refine Steps_cons ?_ ?_
                · intro w8 hB8
                  refine DepsK_cons rfl rfl ?_
                  rintro _ _ ⟨rfl, b1, o1, rfl, h1⟩
                  refine DepsK_nil ?_
                  refine WL_load ty3 h1 (hC1.keep.then hB8) rfl rfl (fun v1 h2 => ?_)
                  obtain rfl := ro_int h2
                  refine WL_nil ?_
                  exact Fin1_val (Below.refl _ _) rfl rfl ⟨rfl, rfl⟩
                refine Steps_cons ?_ ?_
                · intro w8 hB8
                  refine DepsK_cons rfl rfl ?_
                  rintro _ _ ⟨rfl, rfl⟩
                  refine DepsK_nil ?_
                  refine WL_call Try.call79 rfl rfl (c_S_l1In x3 0 10000 x4 hr3) ?_
                  intro _ w3 hv1
                  obtain ⟨rfl, hB3⟩ := res_bool hv1
                  refine WL_nil ?_
                  exact Fin1_val hB3 rfl rfl ⟨rfl, rfl⟩
                refine Steps_cons ?_ ?_
                · intro w8 hB8
                  refine DepsK_cons rfl rfl ?_
                  rintro _ _ ⟨rfl, rfl⟩
                  refine DepsK_nil ?_
                  refine WL_not rfl rfl ?_
                  refine WL_nil ?_
                  exact Fin1_val (Below.refl _ _) rfl rfl ⟨rfl, rfl⟩
                refine Steps_cons ?_ ?_
                · intro w8 hB8
                  refine DepsK_cons rfl rfl ?_
                  rintro _ _ ⟨rfl, rfl⟩
                  refine DepsK_nil ?_
                  refine WL_move rfl rfl ?_
                  refine WL_known hc2 ?_
                  refine WL_nil ?_
                  exact Fin1_val (Below.refl _ _) rfl rfl ⟨rfl, rfl⟩
                refine Steps_cons ?_ ?_
                · intro w8 hB8
                  refine DepsK_cons rfl rfl ?_
                  rintro _ _ ⟨rfl, rfl⟩
                  refine DepsK_nil ?_
                  refine WL_guard rfl rfl ?_
                  refine WL_move rfl rfl ?_
                  refine WL_nil ?_
                  exact Fin1_val (Below.refl _ _) rfl rfl ⟨rfl, rfl⟩
                refine Steps_cons ?_ ?_
                · intro w8 hB8
                  refine DepsK_cons rfl rfl ?_
                  rintro _ _ ⟨rfl, rfl⟩
                  refine DepsK_cons rfl rfl ?_
                  rintro _ _ ⟨rfl, rfl⟩
                  refine DepsK_nil ?_
                  refine WL_guard rfl rfl ?_
                  refine WL_gtr rfl rfl rfl ?_
                  refine WL_nil ?_
                  exact Fin1_val (Below.refl _ _) rfl rfl ⟨rfl, rfl⟩
                refine Steps_cons ?_ ?_
                · intro w8 hB8
                  refine DepsK_cons rfl rfl ?_
                  rintro _ _ ⟨rfl, rfl⟩
                  refine DepsK_cons rfl rfl ?_
                  rintro _ _ ⟨rfl, rfl⟩
                  refine DepsK_nil ?_
                  refine WL_guard rfl rfl ?_
                  refine WL_move rfl rfl ?_
                  refine WL_known hc3 ?_
                  refine WL_nil ?_
                  exact Fin1_val (Below.refl _ _) rfl rfl ⟨rfl, rfl⟩
                refine Steps_cons ?_ ?_
                · intro w8 hB8
                  refine DepsK_cons rfl rfl ?_
                  rintro _ _ ⟨rfl, rfl⟩
                  refine DepsK_nil ?_
                  refine WL_guard_skip rfl rfl (by simp) rfl ?_
                  refine WL_nil ?_
                  exact Fin1_val (Below.refl _ _) rfl rfl ⟨rfl, rfl⟩
                refine Steps_cons ?_ ?_
                · intro w8 hB8
                  refine DepsK_cons rfl rfl ?_
                  rintro _ _ ⟨rfl, rfl⟩
                  refine DepsK_nil ?_
                  refine WL_guard_skip rfl rfl (by simp) rfl ?_
                  refine WL_nil ?_
                  exact Fin1_val (Below.refl _ _) rfl rfl ⟨rfl, rfl⟩
                refine Steps_cons ?_ ?_
                · intro w8 hB8
                  refine DepsK_cons rfl rfl ?_
                  rintro _ _ ⟨rfl, rfl⟩
                  refine DepsK_cons rfl rfl ?_
                  rintro _ _ ⟨rfl, rfl⟩
                  refine DepsK_cons rfl rfl ?_
                  rintro _ _ ⟨rfl, rfl⟩
                  refine DepsK_nil ?_
                  refine WL_guard_skip rfl rfl (by simp) rfl ?_
                  refine WL_nil ?_
                  exact Fin1_val (Below.refl _ _) rfl rfl ⟨rfl, rfl⟩
                refine Steps_cons ?_ ?_
                · intro w8 hB8
                  refine DepsK_cons rfl rfl ?_
                  rintro _ _ ⟨rfl, rfl⟩
                  refine DepsK_cons rfl rfl ?_
                  rintro _ _ ⟨rfl, rfl⟩
                  refine DepsK_nil ?_
                  refine WL_guard_skip rfl rfl (by simp) rfl ?_
                  refine WL_nil ?_
                  exact Fin1_val (Below.refl _ _) rfl rfl ⟨rfl, rfl⟩
                refine Steps_cons ?_ ?_
                · intro w8 hB8
                  refine DepsK_cons rfl rfl ?_
                  rintro _ _ ⟨rfl, rfl⟩
                  refine DepsK_nil ?_
                  refine WL_guard_skip rfl rfl (by simp) rfl ?_
                  refine WL_nil ?_
                  exact Fin1_val (Below.refl _ _) rfl rfl ⟨rfl, rfl⟩
                refine Steps_cons ?_ ?_
                · intro w8 hB8
                  refine DepsK_cons rfl rfl ?_
                  rintro _ _ ⟨rfl, rfl⟩
                  refine DepsK_nil ?_
                  refine WL_guard_skip rfl rfl (by simp) rfl ?_
                  refine WL_nil ?_
                  exact Fin1_val (Below.refl _ _) rfl rfl ⟨rfl, rfl⟩
                refine Steps_cons ?_ ?_
                · intro w8 hB8
                  refine DepsK_cons rfl rfl ?_
                  rintro _ _ ⟨rfl, rfl⟩
                  refine DepsK_cons rfl rfl ?_
                  rintro _ _ ⟨rfl, rfl⟩
                  refine DepsK_nil ?_
                  refine WL_guard_skip rfl rfl (by simp) rfl ?_
                  refine WL_nil ?_
                  exact Fin1_val (Below.refl _ _) rfl rfl ⟨rfl, rfl⟩
                refine Steps_cons ?_ ?_
                · intro w8 hB8
                  refine DepsK_cons rfl rfl ?_
                  rintro _ _ ⟨rfl, rfl⟩
                  refine DepsK_cons rfl rfl ?_
                  rintro _ _ ⟨rfl, rfl⟩
                  refine DepsK_cons rfl rfl ?_
                  rintro _ _ ⟨rfl, rfl⟩
                  refine DepsK_nil ?_
                  refine WL_guard_skip rfl rfl (by simp) rfl ?_
                  refine WL_nil ?_
                  exact Fin1_val (Below.refl _ _) rfl rfl ⟨rfl, rfl⟩
                refine Steps_cons ?_ ?_
                · intro w8 hB8
                  refine DepsK_cons rfl rfl ?_
                  rintro _ _ ⟨rfl, rfl⟩
                  refine DepsK_cons rfl rfl ?_
                  rintro _ _ ⟨rfl, rfl⟩
                  refine DepsK_nil ?_
                  refine WL_guard_skip rfl rfl (by simp) rfl ?_
                  refine WL_nil ?_
                  exact Fin1_val (Below.refl _ _) rfl rfl ⟨rfl, rfl⟩
                exact Steps_nil
              · intro w9 hB9
                refine AllK_cons rfl ?_
                rintro _ _ ⟨rfl, rfl⟩
                refine AllK_cons rfl ?_
                rintro _ _ ⟨rfl, rfl⟩
                refine AllK_cons rfl ?_
                rintro _ _ ⟨rfl, b1, o1, rfl, h1⟩
                refine AllK_cons rfl ?_
                rintro _ _ ⟨rfl, rfl⟩
                refine AllK_cons rfl ?_
                rintro _ _ ⟨rfl, rfl⟩
                refine AllK_cons rfl ?_
                rintro _ _ ⟨rfl, rfl⟩
                refine AllK_cons rfl ?_
                rintro _ _ ⟨rfl, rfl⟩
                refine AllK_cons rfl ?_
                rintro _ _ ⟨rfl, rfl⟩
                refine AllK_cons rfl ?_
                rintro _ _ ⟨rfl, rfl⟩
                refine AllK_cons rfl ?_
                rintro _ _ ⟨rfl, rfl⟩
                refine AllK_cons rfl ?_
                rintro _ _ ⟨rfl, rfl⟩
                refine AllK_cons rfl ?_
                rintro _ _ ⟨rfl, rfl⟩
                refine AllK_cons rfl ?_
                rintro _ _ ⟨rfl, rfl⟩
                refine AllK_cons rfl ?_
                rintro _ _ ⟨rfl, rfl⟩
                refine AllK_cons rfl ?_
                rintro _ _ ⟨rfl, rfl⟩
                refine AllK_cons rfl ?_
                rintro _ _ ⟨rfl, rfl⟩
                refine AllK_cons rfl ?_
                rintro _ _ ⟨rfl, rfl⟩
                refine AllK_cons rfl ?_
                rintro _ _ ⟨rfl, rfl⟩
                refine AllK_cons rfl ?_
                rintro _ _ ⟨rfl, rfl⟩
                refine AllK_nil ?_
                intro hn3 hb3
                have hC5 := hC1.grow hB9
                refine WL_guard_skip rfl rfl (by simp) rfl ?_
                refine WL_guard rfl rfl ?_
                refine WL_pick_f rfl rfl rfl ?_
                refine WL_pick_f rfl rfl rfl ?_
                refine WL_nil ?_
                have hq3 := Option.some.inj hr2
                subst hq3
                refine nrm_sub (l' := [(0, u1), (3, (.int .i64 x1)), (31, (.bool false))]) ⟨rfl, rfl, rfl, trivial⟩ ?_
                exact ⟨false, rfl, rfl, (Keep.of hB9).below, hC5⟩
        · rintro _ w2 ⟨x2, rfl, rfl, hB2, hC2⟩
          try dsimp only at hL1
          refine W_cond rfl (fun hc4 => ?_) (fun hc4 => ?_)
          · replace hL1 := ite_t hL1 hc4
            refine W_seq_reg ?_
            refine WL_assign rfl rfl ?_
            refine WL_nil ?_
            refine W_ret ?_
            refine blk_ret ?_
            refine nrm_ret ?_
            refine nrm_ret ?_
            refine blk_ret ?_
            refine nrm_ret ?_
            refine nrm_ret ?_
            have hq4 := Option.some.inj hL1
            subst hq4
            dsimp only at hF
            have hq5 := Option.some.inj hF
            subst hq5
            refine fn_ret1 rfl rfl ?_
            exact ⟨_, rfl, bool_res hC2 _⟩
          · replace hL1 := ite_f hL1 hc4
            refine W_skip ?_
            refine blk_normal ?_
            refine nrm_normal ?_
            refine W_reg ?_
            refine WL_move rfl rfl ?_
            refine WL_add rfl rfl rfl ?_
            refine WL_assign rfl rfl ?_
            refine WL_nil ?_
            refine nrm_sub (l' := [(0, u1), (3, (.int .i64 (w64 (x1 + 1))))]) ⟨rfl, rfl, trivial⟩ ?_
            exact ⟨k1, Nat.lt_succ_self _, w64 (x1 + 1), rfl, ((Keep.of hB1).then hB2).below, hC2, hL1⟩
      · replace hL1 := ite_f hL1 hc1
        refine W_exit ?_
        refine nrm_exit ?_
        refine nrm_exit ?_
        refine blk_exit ?_
        have hq6 := Option.some.inj hL1
        subst hq6
        refine nrm_sub (l' := [(0, u1)]) ⟨rfl, trivial⟩ ?_
        exact ⟨rfl, rfl, (Keep.of hB1).below, hC1⟩
  · rintro l3 _ w10 hs3 ⟨rfl, rfl, hB10, hC6⟩
    try dsimp only at hF
    refine nrm_sub' hs3 ?_
    clear hs3
    refine W_seq_reg ?_
    refine WL_move rfl rfl ?_
    refine WL_len Try.underlying27 g1 rfl rfl ?_
    refine WL_leq rfl rfl rfl ?_
    refine WL_assign rfl rfl ?_
    refine WL_nil ?_
    refine W_ret ?_
    have hq7 := Option.some.inj hF
    subst hq7
    refine fn_ret1 rfl rfl ?_
    exact ⟨_, rfl, bool_res hC6 _⟩

theorem c_S_IsKept {w0 : World} (a1 : (List Int)) (u1 : Value) (g1 : RO [] w0 u1 a1) (a2 : (Int × Int)) (rr : Bool) (hF : S.IsKept a1 a2 = some rr) :
    Calls Try.prog 58 [u1, (.agg #[(.int .i64 a2.1), (.int .i64 a2.2)])].toArray w0 fun e w' => ∃ v, e = .returned v ∧ Res w0 rr v w' := by
  refine calls_of_W Try.func58 rfl rfl ?_
  have hC0 := Ctx.start w0
  unfold S.IsKept at hF
  refine W_seq_reg ?_
  refine WL_box (cs := [(.int .i64 a2.1), (.int .i64 a2.2)]) hC0 rfl rfl rfl (fun b1 w1 hC1 hB1 => ?_)
  refine WL_assign rfl rfl ?_
  refine WL_nil ?_
  refine W_seq ?_
  obtain ⟨r1, hr1, hF⟩ := bind_some hF
  refine W_cut (fun l w => ∃ x1 : Bool, x1 = r1 ∧ l = [(0, u1), (3, (ptr b1 0)), (13, (.bool x1))] ∧ Below w1.heap.size w1 w ∧ Ctx [] w0 w [Item.box b1 [(.int .i64 a2.1), (.int .i64 a2.2)]]) ?_ ?_
  · refine W_reg ?_
    refine WL_move rfl rfl ?_
    obtain ⟨x2, hr2, hr1⟩ := bind_some hr1
    refine WL_call Try.call102 rfl rfl (c_S_l18Times a1 u1 (g1.now hC1.keep) x2 hr2) ?_
    intro _ w3 hv1
    obtain ⟨rfl, hB3⟩ := res_bool hv1
    have hC3 := hC1.grow hB3
    refine WL_not rfl rfl ?_
    refine WL_move rfl rfl ?_
    refine WL_fork (fun hc1 => ?_) (fun hc1 => ?_)
    · replace hr1 := ite_t hr1 hc1
      refine WL_guard_skip rfl rfl (by simp) rfl ?_
      refine WL_guard_skip rfl rfl (by simp) rfl ?_
      refine WL_guard_skip rfl rfl (by simp) rfl ?_
      refine WL_pick_t rfl rfl rfl ?_
      refine WL_nil ?_
      have hq1 := Option.some.inj hr1
      subst hq1
      refine nrm_sub (l' := [(0, u1), (3, (ptr b1 0)), (13, (.bool true))]) ⟨rfl, rfl, rfl, trivial⟩ ?_
      exact ⟨true, rfl, rfl, (Keep.of hB3).below, hC3⟩
    · replace hr1 := ite_f hr1 hc1
      refine WL_guard rfl rfl ?_
      refine WL_load_box_agg [(.int .i64 a2.1), (.int .i64 a2.2)] hC3 0 rfl rfl rfl Try.isAgg41 Try.sizeOf41 rfl rfl ?_
      obtain ⟨x3, hr3, hr1⟩ := bind_some hr1
      refine WL_guard rfl rfl ?_
      refine WL_call Try.call64 rfl rfl (c_S_IsWindow (a2.1, a2.2) x3 hr3) ?_
      intro _ w4 hv2
      obtain ⟨rfl, hB4⟩ := res_bool hv2
      have hC4 := hC3.grow hB4
      refine WL_guard rfl rfl ?_
      refine WL_not rfl rfl ?_
      refine WL_pick_f rfl rfl rfl ?_
      refine WL_nil ?_
      have hq2 := Option.some.inj hr1
      subst hq2
      refine nrm_sub (l' := [(0, u1), (3, (ptr b1 0)), (13, (.bool (!x3)))]) ⟨rfl, rfl, rfl, trivial⟩ ?_
      exact ⟨(!x3), rfl, rfl, ((Keep.of hB3).then hB4).below, hC4⟩
  · rintro _ w2 ⟨x1, rfl, rfl, hB2, hC2⟩
    try dsimp only at hF
    refine W_cond rfl (fun hc2 => ?_) (fun hc2 => ?_)
    · replace hF := ite_t hF hc2
      refine W_seq_reg ?_
      refine WL_assign rfl rfl ?_
      refine WL_nil ?_
      refine W_ret ?_
      refine nrm_ret ?_
      have hq3 := Option.some.inj hF
      subst hq3
      refine fn_ret1 rfl rfl ?_
      exact ⟨_, rfl, bool_res hC2 _⟩
    · replace hF := ite_f hF hc2
      refine W_skip ?_
      refine nrm_normal ?_
      refine W_seq ?_
      refine W_seq_reg ?_
      refine WL_assign rfl rfl ?_
      refine WL_nil ?_
      obtain ⟨r2, hr4, hF⟩ := bind_some hF
      refine W_norm (fun l w => .inl () = r2 ∧ l = [] ∧ Below w2.heap.size w2 w ∧ Ctx [] w0 w []) ?_ ?_
      · refine W_block ?_
        refine W.sub (l' := [(0, u1), (3, (ptr b1 0)), (5, (.int .i64 0))]) ?_ ⟨rfl, rfl, rfl, trivial⟩
        refine W_loop (fun k l w => ∃ x4 : Int, l = [(0, u1), (3, (ptr b1 0)), (5, (.int .i64 x4))] ∧ Below w2.heap.size w2 w ∧ Ctx [] w0 w [Item.box b1 [(.int .i64 a2.1), (.int .i64 a2.2)]] ∧ S.IsKept_l1 a1 a2 k x4 = some r2) FUEL ⟨0, rfl, (Below.refl _ _), hC2, hr4⟩ ?_
        clear hr4
        rintro k1 _ w5 ⟨x4, rfl, hB5, hC5, hL1⟩
        cases k1 with
        | zero => rw [S.IsKept_l1] at hL1; cases hL1
        | succ k1 =>
          rw [S.IsKept_l1] at hL1
          refine W_seq ?_
          refine W_seq_reg ?_
          refine WL_move rfl rfl ?_
          refine WL_move rfl rfl ?_
          refine WL_len Try.underlying27 g1 rfl rfl ?_
          refine WL_lss rfl rfl rfl ?_
          refine WL_nil ?_
          refine W_cond rfl (fun hc3 => ?_) (fun hc3 => ?_)
          · replace hL1 := ite_t hL1 hc3
            refine W_skip ?_
            refine nrm_normal ?_
            refine W_seq ?_
            refine W_block ?_
            refine W_seq ?_
            obtain ⟨x5, hx1, hL1⟩ := bind_some hL1
            obtain ⟨x6, hr5, hL1⟩ := bind_some hL1
            refine W.sub (l' := [(0, u1), (3, (ptr b1 0)), (5, (.int .i64 x4)), (14, (.int .i64 x4)), (15, u1), (16, (.int .i64 (List.length a1 : Int))), (17, (.bool (decide (x4 < (List.length a1 : Int)))))]) ?_ ⟨rfl, rfl, rfl, rfl, rfl, rfl, rfl, trivial⟩
            refine W_any 10 [PV.val u1, PV.val u1, PV.val (.int .i64 x4), PV.at [] w0 x5, PV.val (.int .i64 x5), PV.val (ptr b1 0), PV.val (.int .i64 a2.1), PV.val (.int .i64 x6), PV.val (ptr b1 1), PV.val (.int .i64 a2.2)] [[], [], [], [1, 2], [3], [], [5], [0, 4, 6], [], [8]] hmix (by kernel_rfl) rfl ?_ ?_
            · refine Steps_cons ?_ ?_
              · intro w7 hB7
                refine DepsK_nil ?_
                refine WL_move rfl rfl ?_
                refine WL_nil ?_
                exact Fin1_val (Below.refl _ _) rfl rfl ⟨rfl, rfl⟩
              refine Steps_cons ?_ ?_
              · intro w7 hB7
                refine DepsK_nil ?_
                refine WL_move rfl rfl ?_
                refine WL_nil ?_
                exact Fin1_val (Below.refl _ _) rfl rfl ⟨rfl, rfl⟩
              refine Steps_cons ?_ ?_
              · intro w7 hB7
                refine DepsK_nil ?_
                refine WL_move rfl rfl ?_
                refine WL_nil ?_
                exact Fin1_val (Below.refl _ _) rfl rfl ⟨rfl, rfl⟩
              refine Steps_cons ?_ ?_
              · intro w7 hB7
                refine DepsK_cons rfl rfl ?_
                rintro _ _ ⟨rfl, rfl⟩
                refine DepsK_cons rfl rfl ?_
                rintro _ _ ⟨rfl, rfl⟩
                refine DepsK_nil ?_
                refine WL_index Try.underlying27 ty3 g1 hx1 rfl rfl rfl (fun b2 o1 h1 => ?_)
                refine WL_nil ?_
                exact Fin1_val (Below.refl _ _) rfl rfl ⟨rfl, _, _, rfl, h1⟩
              refine Steps_cons ?_ ?_
              · intro w7 hB7
                refine DepsK_cons rfl rfl ?_
                rintro _ _ ⟨rfl, b2, o1, rfl, h1⟩
                refine DepsK_nil ?_
                refine WL_load ty3 h1 (hC5.keep.then hB7) rfl rfl (fun v1 h2 => ?_)
                obtain rfl := ro_int h2
                refine WL_nil ?_
                exact Fin1_val (Below.refl _ _) rfl rfl ⟨rfl, rfl⟩
              refine Steps_cons ?_ ?_
              · intro w7 hB7
                refine DepsK_nil ?_
                refine WL_field Try.underlying41 rfl rfl (fun w => ⟨_, Try.sizeOf3 w⟩) rfl rfl ?_
                refine WL_nil ?_
                exact Fin1_val (Below.refl _ _) rfl rfl ⟨rfl, rfl⟩
              refine Steps_cons ?_ ?_
              · intro w7 hB7
                refine DepsK_cons rfl rfl ?_
                rintro _ _ ⟨rfl, rfl⟩
                refine DepsK_nil ?_
                refine WL_load_box (hC5.grow hB7) 0 rfl rfl Try.isAgg3 rfl rfl ?_
                refine WL_nil ?_
                exact Fin1_val (Below.refl _ _) rfl rfl ⟨rfl, rfl⟩
              refine Steps_cons ?_ ?_
              · intro w7 hB7
                refine DepsK_cons rfl rfl ?_
                rintro _ _ ⟨rfl, rfl⟩
                refine DepsK_cons rfl rfl ?_
                rintro _ _ ⟨rfl, rfl⟩
                refine DepsK_cons rfl rfl ?_
                rintro _ _ ⟨rfl, rfl⟩
                refine DepsK_nil ?_
                refine WL_call Try.call57 rfl rfl (c_S_CallsIn a1 u1 (g1.now (hC5.keep.then hB7)) x5 a2.1 x6 hr5) ?_
                intro _ w6 hv3
                obtain ⟨rfl, hB6⟩ := res_int hv3
                refine WL_nil ?_
                exact Fin1_val hB6 rfl rfl ⟨rfl, rfl⟩
              refine Steps_cons ?_ ?_
              · intro w7 hB7
                refine DepsK_nil ?_
                refine WL_field Try.underlying41 rfl rfl (fun w => ⟨_, Try.sizeOf3 w⟩) rfl rfl ?_
                refine WL_nil ?_
                exact Fin1_val (Below.refl _ _) rfl rfl ⟨rfl, rfl⟩
              refine Steps_cons ?_ ?_
              · intro w7 hB7
                refine DepsK_cons rfl rfl ?_
                rintro _ _ ⟨rfl, rfl⟩
                refine DepsK_nil ?_
                refine WL_load_box (hC5.grow hB7) 0 rfl rfl Try.isAgg3 rfl rfl ?_
                refine WL_nil ?_
                exact Fin1_val (Below.refl _ _) rfl rfl ⟨rfl, rfl⟩
              exact Steps_nil
            · intro w8 hB8
              refine AllK_cons rfl ?_
              rintro _ _ ⟨rfl, rfl⟩
              refine AllK_cons rfl ?_
              rintro _ _ ⟨rfl, rfl⟩
              refine AllK_cons rfl ?_
              rintro _ _ ⟨rfl, rfl⟩
              refine AllK_cons rfl ?_
              rintro _ _ ⟨rfl, b2, o1, rfl, h1⟩
              refine AllK_cons rfl ?_
              rintro _ _ ⟨rfl, rfl⟩
              refine AllK_cons rfl ?_
              rintro _ _ ⟨rfl, rfl⟩
              refine AllK_cons rfl ?_
              rintro _ _ ⟨rfl, rfl⟩
              refine AllK_cons rfl ?_
              rintro _ _ ⟨rfl, rfl⟩
              refine AllK_cons rfl ?_
              rintro _ _ ⟨rfl, rfl⟩
              refine AllK_cons rfl ?_
              rintro _ _ ⟨rfl, rfl⟩
              refine AllK_nil ?_
              intro hn1 hb1
              have hC6 := hC5.grow hB8
              refine WL_gtr rfl rfl rfl ?_
              refine WL_nil ?_
              refine nrm_normal ?_
              refine W_cond rfl (fun hc4 => ?_) (fun hc4 => ?_)
              · replace hL1 := ite_t hL1 hc4
                refine W_seq_reg ?_
                refine WL_assign rfl rfl ?_
                refine WL_nil ?_
                refine W_ret ?_
                refine blk_ret ?_
                refine nrm_ret ?_
                refine nrm_ret ?_
                refine blk_ret ?_
                refine nrm_ret ?_
                refine nrm_ret ?_
                have hq4 := Option.some.inj hL1
                subst hq4
                dsimp only at hF
                have hq5 := Option.some.inj hF
                subst hq5
                refine fn_ret1 rfl rfl ?_
                exact ⟨_, rfl, bool_res hC6 _⟩
              · replace hL1 := ite_f hL1 hc4
                refine W_skip ?_
                refine blk_normal ?_
                refine nrm_normal ?_
                refine W_reg ?_
                refine WL_move rfl rfl ?_
                refine WL_add rfl rfl rfl ?_
                refine WL_assign rfl rfl ?_
                refine WL_nil ?_
                refine nrm_sub (l' := [(0, u1), (3, (ptr b1 0)), (5, (.int .i64 (w64 (x4 + 1))))]) ⟨rfl, rfl, rfl, trivial⟩ ?_
                exact ⟨k1, Nat.lt_succ_self _, w64 (x4 + 1), rfl, ((Keep.of hB5).then hB8).below, hC6, hL1⟩
          · replace hL1 := ite_f hL1 hc3
            refine W_exit ?_
            refine nrm_exit ?_
            refine nrm_exit ?_
            refine blk_exit ?_
            have hq6 := Option.some.inj hL1
            subst hq6
            have hC7 := hC5.headN 0
            dsimp only [List.take] at hC7
            refine nrm_sub (l' := []) trivial ?_
            exact ⟨rfl, rfl, (Keep.of hB5).below, hC7⟩
      · rintro l3 _ w9 hs3 ⟨rfl, rfl, hB9, hC8⟩
        try dsimp only at hF
        refine nrm_sub' hs3 ?_
        clear hs3
        refine W_seq_reg ?_
        refine WL_assign rfl rfl ?_
        refine WL_nil ?_
        refine W_ret ?_
        have hq7 := Option.some.inj hF
        subst hq7
        refine fn_ret1 rfl rfl ?_
        exact ⟨_, rfl, bool_res hC8 _⟩

theorem c_S_NextTime {w0 : World} (a1 : (List Int)) (u1 : Value) (g1 : RO [] w0 u1 a1) (a2 : (Int × Int)) (a3 : Int) (rr : (Int × Bool)) (hF : S.NextTime a1 a2 a3 = some rr) :
    Calls Try.prog 26 [u1, (.agg #[(.int .i64 a2.1), (.int .i64 a2.2)]), (.int .i64 a3)].toArray w0 fun e w' => ∃ v, e = .returned v ∧ Res2 w0 rr.1 rr.2 v w' := by
  refine calls_of_W Try.func26 rfl rfl ?_
  have hC0 := Ctx.start w0
  unfold S.NextTime at hF
  refine W_seq_reg ?_
  refine WL_box (cs := [(.int .i64 a2.1), (.int .i64 a2.2)]) hC0 rfl rfl rfl (fun b1 w1 hC1 hB1 => ?_)
  refine WL_assign rfl rfl ?_
  refine WL_assign rfl rfl ?_
  refine WL_nil ?_
  refine W_seq ?_
  obtain ⟨r1, hr1, hF⟩ := bind_some hF
  refine W_cut (fun l w => ∃ x1 : Bool, x1 = r1 ∧ l = [(0, u1), (2, (.int .i64 a3)), (4, (ptr b1 0)), (17, (.bool x1))] ∧ Below w1.heap.size w1 w ∧ Ctx [] w0 w [Item.box b1 [(.int .i64 a2.1), (.int .i64 a2.2)]]) ?_ ?_
  · refine W_reg ?_
    refine WL_move rfl rfl ?_
    refine WL_load_box_agg [(.int .i64 a2.1), (.int .i64 a2.2)] hC1 0 rfl rfl rfl Try.isAgg41 Try.sizeOf41 rfl rfl ?_
    obtain ⟨x2, hr2, hr1⟩ := bind_some hr1
    refine WL_call Try.call58 rfl rfl (c_S_IsKept a1 u1 (g1.now hC1.keep) (a2.1, a2.2) x2 hr2) ?_
    intro _ w3 hv1
    obtain ⟨rfl, hB3⟩ := res_bool hv1
    have hC3 := hC1.grow hB3
    refine WL_not rfl rfl ?_
    refine WL_move rfl rfl ?_
    refine WL_fork (fun hc1 => ?_) (fun hc1 => ?_)
    · replace hr1 := ite_t hr1 hc1
      refine WL_guard_skip rfl rfl (by simp) rfl ?_
      refine WL_guard_skip rfl rfl (by simp) rfl ?_
      refine WL_guard_skip rfl rfl (by simp) rfl ?_
      refine WL_pick_t rfl rfl rfl ?_
      refine WL_nil ?_
      have hq1 := Option.some.inj hr1
      subst hq1
      refine nrm_sub (l' := [(0, u1), (2, (.int .i64 a3)), (4, (ptr b1 0)), (17, (.bool true))]) ⟨rfl, rfl, rfl, rfl, trivial⟩ ?_
      exact ⟨true, rfl, rfl, (Keep.of hB3).below, hC3⟩
    · replace hr1 := ite_f hr1 hc1
      refine WL_guard rfl rfl ?_
      refine WL_move rfl rfl ?_
      obtain ⟨x3, hr3, hr1⟩ := bind_some hr1
      refine WL_guard rfl rfl ?_
      refine WL_call Try.call79 rfl rfl (c_S_l1In a3 0 10000 x3 hr3) ?_
      intro _ w4 hv2
      obtain ⟨rfl, hB4⟩ := res_bool hv2
      have hC4 := hC3.grow hB4
      refine WL_guard rfl rfl ?_
      refine WL_not rfl rfl ?_
      refine WL_pick_f rfl rfl rfl ?_
      refine WL_nil ?_
      have hq2 := Option.some.inj hr1
      subst hq2
      refine nrm_sub (l' := [(0, u1), (2, (.int .i64 a3)), (4, (ptr b1 0)), (17, (.bool (!x3)))]) ⟨rfl, rfl, rfl, rfl, trivial⟩ ?_
      exact ⟨(!x3), rfl, rfl, ((Keep.of hB3).then hB4).below, hC4⟩
  · rintro _ w2 ⟨x1, rfl, rfl, hB2, hC2⟩
    try dsimp only at hF
    refine W_cond rfl (fun hc2 => ?_) (fun hc2 => ?_)
    · replace hF := ite_t hF hc2
      refine W_seq_reg ?_
      refine WL_assign rfl rfl ?_
      refine WL_assign rfl rfl ?_
      refine WL_nil ?_
      refine W_ret ?_
      refine nrm_ret ?_
      have hq3 := Option.some.inj hF
      subst hq3
      refine fn_ret2 rfl rfl rfl ?_
      have hC5 := hC2.triv (bool_val (false))
      have hC6 := hC5.triv (int_val (0))
      exact ⟨_, rfl, res2_of hC6⟩
    · replace hF := ite_f hF hc2
      refine W_skip ?_
      refine nrm_normal ?_
      refine W_seq_reg ?_
      refine WL_move rfl rfl ?_
      refine WL_assign rfl rfl ?_
      refine WL_nil ?_
      refine W_seq ?_
      refine W_seq_reg ?_
      refine WL_move rfl rfl ?_
      refine WL_len Try.underlying27 g1 rfl rfl ?_
      refine WL_gtr rfl rfl rfl ?_
      refine WL_nil ?_
      obtain ⟨r2, hr4, hF⟩ := bind_some hF
      refine W_norm (fun l w => ∃ x4 : Int, x4 = r2 ∧ l = [(0, u1), (4, (ptr b1 0)), (8, (.int .i64 x4))] ∧ Below w2.heap.size w2 w ∧ Ctx [] w0 w [Item.box b1 [(.int .i64 a2.1), (.int .i64 a2.2)]]) ?_ ?_
      · refine W_cond rfl (fun hc3 => ?_) (fun hc3 => ?_)
        · replace hr4 := ite_t hr4 hc3
          refine W_reg ?_
          refine WL_move rfl rfl ?_
          refine WL_move rfl rfl ?_
          refine WL_move rfl rfl ?_
          refine WL_len Try.underlying27 g1 rfl rfl ?_
          refine WL_sub rfl rfl rfl ?_
          obtain ⟨x5, hx1, hr4⟩ := bind_some hr4
          refine WL_index Try.underlying27 ty3 g1 hx1 rfl rfl rfl (fun b2 o1 h1 => ?_)
          refine WL_load ty3 h1 hC2.keep rfl rfl (fun v1 h2 => ?_)
          obtain rfl := ro_int h2
          refine WL_max rfl rfl rfl ?_
          refine WL_assign rfl rfl ?_
          refine WL_nil ?_
          have hq4 := Option.some.inj hr4
          subst hq4
          refine nrm_sub (l' := [(0, u1), (4, (ptr b1 0)), (8, (.int .i64 (if x5 > a3 then x5 else a3)))]) ⟨rfl, rfl, rfl, trivial⟩ ?_
          exact ⟨if x5 > a3 then x5 else a3, rfl, rfl, (Below.refl _ _), hC2⟩
        · replace hr4 := ite_f hr4 hc3
          refine W_skip ?_
          have hq5 := Option.some.inj hr4
          subst hq5
          refine nrm_sub (l' := [(0, u1), (4, (ptr b1 0)), (8, (.int .i64 a3))]) ⟨rfl, rfl, rfl, trivial⟩ ?_
          exact ⟨a3, rfl, rfl, (Below.refl _ _), hC2⟩
      · rintro l2 _ w5 hs2 ⟨x4, rfl, rfl, hB5, hC7⟩
        try dsimp only at hF
        refine nrm_sub' hs2 ?_
        clear hs2
        refine W_seq ?_
        refine W_seq_reg ?_
        refine WL_move rfl rfl ?_
        refine WL_len Try.underlying27 g1 rfl rfl ?_
        refine WL_field Try.underlying41 rfl rfl (fun w => ⟨_, Try.sizeOf3 w⟩) rfl rfl ?_
        refine WL_load_box hC7 0 rfl rfl Try.isAgg3 rfl rfl ?_
        refine WL_geq rfl rfl rfl ?_
        refine WL_nil ?_
        obtain ⟨r3, hr5, hF⟩ := bind_some hF
        refine W_norm (fun l w => ∃ x6 : Int, x6 = r3 ∧ l = [(8, (.int .i64 x6))] ∧ Below w5.heap.size w5 w ∧ Ctx [] w0 w []) ?_ ?_
        · refine W_cond rfl (fun hc4 => ?_) (fun hc4 => ?_)
          · replace hr5 := ite_t hr5 hc4
            obtain ⟨x7, hx2, hr5⟩ := bind_some hr5
            refine W.sub (l' := [(0, u1), (4, (ptr b1 0)), (8, (.int .i64 x4)), (30, u1), (31, (.int .i64 (List.length a1 : Int))), (32, (ptr b1 1)), (33, (.int .i64 a2.2)), (34, (.bool (decide (a2.2 ≤ (List.length a1 : Int)))))]) ?_ ⟨rfl, rfl, rfl, rfl, rfl, rfl, rfl, rfl, trivial⟩
            refine W_any 12 [PV.val (.int .i64 x4), PV.val u1, PV.val u1, PV.val (.int .i64 (List.length a1 : Int)), PV.val (ptr b1 1), PV.val (.int .i64 a2.2), PV.val (.int .i64 (w64 ((List.length a1 : Int) - a2.2))), PV.at [] w0 x7, PV.val (.int .i64 x7), PV.val (ptr b1 0), PV.val (.int .i64 a2.1), PV.val (.int .i64 (w64 (x7 + a2.1)))] [[], [], [], [2], [], [4], [3, 5], [1, 6], [7], [], [9], [8, 10]] hmix (by kernel_rfl) rfl ?_ ?_
            · refine Steps_cons ?_ ?_
              · intro w7 hB7
                refine DepsK_nil ?_
                refine WL_move rfl rfl ?_
                refine WL_nil ?_
                exact Fin1_val (Below.refl _ _) rfl rfl ⟨rfl, rfl⟩
              refine Steps_cons ?_ ?_
              · intro w7 hB7
                refine DepsK_nil ?_
                refine WL_move rfl rfl ?_
                refine WL_nil ?_
                exact Fin1_val (Below.refl _ _) rfl rfl ⟨rfl, rfl⟩
              refine Steps_cons ?_ ?_
              · intro w7 hB7
                refine DepsK_nil ?_
                refine WL_move rfl rfl ?_
                refine WL_nil ?_
                exact Fin1_val (Below.refl _ _) rfl rfl ⟨rfl, rfl⟩
              refine Steps_cons ?_ ?_
              · intro w7 hB7
                refine DepsK_cons rfl rfl ?_
                rintro _ _ ⟨rfl, rfl⟩
                refine DepsK_nil ?_
                refine WL_len Try.underlying27 g1 rfl rfl ?_
                refine WL_nil ?_
                exact Fin1_val (Below.refl _ _) rfl rfl ⟨rfl, rfl⟩
              refine Steps_cons ?_ ?_
              · intro w7 hB7
                refine DepsK_nil ?_
                refine WL_field Try.underlying41 rfl rfl (fun w => ⟨_, Try.sizeOf3 w⟩) rfl rfl ?_
                refine WL_nil ?_
                exact Fin1_val (Below.refl _ _) rfl rfl ⟨rfl, rfl⟩
              refine Steps_cons ?_ ?_
              · intro w7 hB7
                refine DepsK_cons rfl rfl ?_
                rintro _ _ ⟨rfl, rfl⟩
                refine DepsK_nil ?_
                refine WL_load_box (hC7.grow hB7) 0 rfl rfl Try.isAgg3 rfl rfl ?_
                refine WL_nil ?_
                exact Fin1_val (Below.refl _ _) rfl rfl ⟨rfl, rfl⟩
              refine Steps_cons ?_ ?_
              · intro w7 hB7
                refine DepsK_cons rfl rfl ?_
                rintro _ _ ⟨rfl, rfl⟩
                refine DepsK_cons rfl rfl ?_
                rintro _ _ ⟨rfl, rfl⟩
                refine DepsK_nil ?_
                refine WL_sub rfl rfl rfl ?_
                refine WL_nil ?_
                exact Fin1_val (Below.refl _ _) rfl rfl ⟨rfl, rfl⟩
              refine Steps_cons ?_ ?_
              · intro w7 hB7
                refine DepsK_cons rfl rfl ?_
                rintro _ _ ⟨rfl, rfl⟩
                refine DepsK_cons rfl rfl ?_
                rintro _ _ ⟨rfl, rfl⟩
                refine DepsK_nil ?_
                refine WL_index Try.underlying27 ty3 g1 hx2 rfl rfl rfl (fun b3 o2 h3 => ?_)
                refine WL_nil ?_
                exact Fin1_val (Below.refl _ _) rfl rfl ⟨rfl, _, _, rfl, h3⟩
              refine Steps_cons ?_ ?_
              · intro w7 hB7
                refine DepsK_cons rfl rfl ?_
                rintro _ _ ⟨rfl, b3, o2, rfl, h3⟩
                refine DepsK_nil ?_
                refine WL_load ty3 h3 (hC7.keep.then hB7) rfl rfl (fun v2 h4 => ?_)
                obtain rfl := ro_int h4
                refine WL_nil ?_
                exact Fin1_val (Below.refl _ _) rfl rfl ⟨rfl, rfl⟩
              refine Steps_cons ?_ ?_
              · intro w7 hB7
                refine DepsK_nil ?_
                refine WL_field Try.underlying41 rfl rfl (fun w => ⟨_, Try.sizeOf3 w⟩) rfl rfl ?_
                refine WL_nil ?_
                exact Fin1_val (Below.refl _ _) rfl rfl ⟨rfl, rfl⟩
              refine Steps_cons ?_ ?_
              · intro w7 hB7
                refine DepsK_cons rfl rfl ?_
                rintro _ _ ⟨rfl, rfl⟩
                refine DepsK_nil ?_
                refine WL_load_box (hC7.grow hB7) 0 rfl rfl Try.isAgg3 rfl rfl ?_
                refine WL_nil ?_
                exact Fin1_val (Below.refl _ _) rfl rfl ⟨rfl, rfl⟩
              refine Steps_cons ?_ ?_
              · intro w7 hB7
                refine DepsK_cons rfl rfl ?_
                rintro _ _ ⟨rfl, rfl⟩
                refine DepsK_cons rfl rfl ?_
                rintro _ _ ⟨rfl, rfl⟩
                refine DepsK_nil ?_
                refine WL_add rfl rfl rfl ?_
                refine WL_nil ?_
                exact Fin1_val (Below.refl _ _) rfl rfl ⟨rfl, rfl⟩
              exact Steps_nil
            · intro w8 hB8
              refine AllK_cons rfl ?_
              rintro _ _ ⟨rfl, rfl⟩
              refine AllK_cons rfl ?_
              rintro _ _ ⟨rfl, rfl⟩
              refine AllK_cons rfl ?_
              rintro _ _ ⟨rfl, rfl⟩
              refine AllK_cons rfl ?_
              rintro _ _ ⟨rfl, rfl⟩
              refine AllK_cons rfl ?_
              rintro _ _ ⟨rfl, rfl⟩
              refine AllK_cons rfl ?_
              rintro _ _ ⟨rfl, rfl⟩
              refine AllK_cons rfl ?_
              rintro _ _ ⟨rfl, rfl⟩
              refine AllK_cons rfl ?_
              rintro _ _ ⟨rfl, b3, o2, rfl, h3⟩
              refine AllK_cons rfl ?_
              rintro _ _ ⟨rfl, rfl⟩
              refine AllK_cons rfl ?_
              rintro _ _ ⟨rfl, rfl⟩
              refine AllK_cons rfl ?_
              rintro _ _ ⟨rfl, rfl⟩
              refine AllK_cons rfl ?_
              rintro _ _ ⟨rfl, rfl⟩
              refine AllK_nil ?_
              intro hn1 hb1
              have hC9 := hC7.grow hB8
              refine WL_max rfl rfl rfl ?_
              refine WL_assign rfl rfl ?_
              refine WL_nil ?_
              have hq6 := Option.some.inj hr5
              subst hq6
              have hC10 := hC9.headN 0
              dsimp only [List.take] at hC10
              refine nrm_sub (l' := [(8, (.int .i64 (if (w64 (x7 + a2.1)) > x4 then w64 (x7 + a2.1) else x4)))]) ⟨rfl, trivial⟩ ?_
              exact ⟨if (w64 (x7 + a2.1)) > x4 then w64 (x7 + a2.1) else x4, rfl, rfl, (Keep.of hB8).below, hC10⟩
          · replace hr5 := ite_f hr5 hc4
            refine W_skip ?_
            have hq7 := Option.some.inj hr5
            subst hq7
            have hC11 := hC7.headN 0
            dsimp only [List.take] at hC11
            refine nrm_sub (l' := [(8, (.int .i64 x4))]) ⟨rfl, trivial⟩ ?_
            exact ⟨x4, rfl, rfl, (Below.refl _ _), hC11⟩
        · rintro l3 _ w6 hs3 ⟨x6, rfl, rfl, hB6, hC8⟩
          try dsimp only at hF
          refine nrm_sub' hs3 ?_
          clear hs3
          refine W_seq ?_
          refine W_seq_reg ?_
          refine WL_move rfl rfl ?_
          refine WL_gtr rfl rfl rfl ?_
          refine WL_nil ?_
          refine W_cond rfl (fun hc5 => ?_) (fun hc5 => ?_)
          · replace hF := ite_t hF hc5
            refine W_seq_reg ?_
            refine WL_assign rfl rfl ?_
            refine WL_assign rfl rfl ?_
            refine WL_nil ?_
            refine W_ret ?_
            refine nrm_ret ?_
            have hq8 := Option.some.inj hF
            subst hq8
            refine fn_ret2 rfl rfl rfl ?_
            have hC12 := hC8.triv (bool_val (false))
            have hC13 := hC12.triv (int_val (0))
            exact ⟨_, rfl, res2_of hC13⟩
          · replace hF := ite_f hF hc5
            refine W_skip ?_
            refine nrm_normal ?_
            refine W_seq_reg ?_
            refine WL_move rfl rfl ?_
            refine WL_assign rfl rfl ?_
            refine WL_assign rfl rfl ?_
            refine WL_nil ?_
            refine W_ret ?_
            have hq9 := Option.some.inj hF
            subst hq9
            refine fn_ret2 rfl rfl rfl ?_
            have hC14 := hC8.triv (bool_val (true))
            have hC15 := hC14.triv (int_val (x6))
            exact ⟨_, rfl, res2_of hC15⟩

theorem c_Q_toIntS {w0 : World} (a1 : (List Int)) (u1 : Value) (g1 : RO [] w0 u1 a1) (rr : (List Int)) (hF : Q.toIntS a1 = some rr) :
    Calls Try.prog 27 [u1].toArray w0 fun e w' => ∃ v, e = .returned v ∧ Res w0 rr v w' := by
  refine calls_of_W Try.func27 rfl rfl ?_
  have hC0 := Ctx.start w0
  unfold Q.toIntS at hF
  refine W_seq_reg ?_
  refine WL_assign rfl rfl ?_
  refine WL_nil ?_
  refine W_seq_reg ?_
  refine WL_move rfl rfl ?_
  refine WL_len Try.underlying27 g1 rfl rfl ?_
  obtain ⟨x1, hx1, hF⟩ := bind_some hF
  refine WL_makeSlice hC0 Try.underlying27 ty3 rfl zc3 zr3 hx1 rfl rfl rfl (fun b1 w1 hC1 hB1 => ?_)
  refine WL_assign rfl rfl ?_
  refine WL_nil ?_
  refine W_seq ?_
  refine W_seq_reg ?_
  refine WL_assign rfl rfl ?_
  refine WL_nil ?_
  obtain ⟨r1, hr1, hF⟩ := bind_some hF
  refine W_norm (fun l w => ∃ x4 : (List Int), x4 = r1 ∧ l = [(3, (.slice (some ⟨b1, 0, none⟩) (Int.toNat (List.length a1 : Int)) (Int.toNat (List.length a1 : Int))))] ∧ Ctx [] w0 w [Item.own (.slice (some ⟨b1, 0, none⟩) (Int.toNat (List.length a1 : Int)) (Int.toNat (List.length a1 : Int))) (x4 : (List Int))]) ?_ ?_
  · refine W_block ?_
    refine W.sub (l' := [(0, u1), (3, (.slice (some ⟨b1, 0, none⟩) (Int.toNat (List.length a1 : Int)) (Int.toNat (List.length a1 : Int)))), (4, (.int .i64 0))]) ?_ ⟨rfl, rfl, rfl, trivial⟩
    refine W_loop (fun k l w => ∃ x2 : (List Int), ∃ x3 : Int, l = [(0, u1), (3, (.slice (some ⟨b1, 0, none⟩) (Int.toNat (List.length a1 : Int)) (Int.toNat (List.length a1 : Int)))), (4, (.int .i64 x3))] ∧ Ctx [] w0 w [Item.own (.slice (some ⟨b1, 0, none⟩) (Int.toNat (List.length a1 : Int)) (Int.toNat (List.length a1 : Int))) (x2 : (List Int))] ∧ Q.toIntS_l1 a1 k x2 x3 = some r1) FUEL ⟨x1, 0, rfl, hC1, hr1⟩ ?_
    clear hr1
    rintro k1 _ w2 ⟨x2, x3, rfl, hC2, hL1⟩
    cases k1 with
    | zero => rw [Q.toIntS_l1] at hL1; cases hL1
    | succ k1 =>
      rw [Q.toIntS_l1] at hL1
      refine W_seq ?_
      refine W_seq_reg ?_
      refine WL_move rfl rfl ?_
      refine WL_move rfl rfl ?_
      refine WL_len Try.underlying27 g1 rfl rfl ?_
      refine WL_lss rfl rfl rfl ?_
      refine WL_nil ?_
      refine W_cond rfl (fun hc1 => ?_) (fun hc1 => ?_)
      · replace hL1 := ite_t hL1 hc1
        refine W_skip ?_
        refine nrm_normal ?_
        refine W_seq ?_
        refine W_block ?_
        refine W_reg ?_
        refine WL_move rfl rfl ?_
        refine WL_move rfl rfl ?_
        refine WL_move rfl rfl ?_
        refine WL_move rfl rfl ?_
        obtain ⟨x5, hx2, hL1⟩ := bind_some hL1
        refine WL_index Try.underlying27 ty3 g1 hx2 rfl rfl rfl (fun b2 o1 h1 => ?_)
        refine WL_load ty3 h1 hC2.keep rfl rfl (fun v1 h2 => ?_)
        obtain rfl := ro_int h2
        obtain ⟨x6, hx3, hL1⟩ := bind_some hL1
        refine WL_index_own hC2 0 rfl Try.underlying27 ty3 hx3 rfl rfl rfl (fun b3 hE1 => ?_)
        have hC4 := hC2.triv (int_val (x5))
        refine WL_store_elem hC4 0 rfl ty3 hE1 hx3 rfl rfl rfl (fun w3 hC3 => ?_)
        try dsimp only [List.set] at hC3
        refine WL_nil ?_
        refine blk_normal ?_
        refine nrm_normal ?_
        refine W_reg ?_
        refine WL_move rfl rfl ?_
        refine WL_add rfl rfl rfl ?_
        refine WL_assign rfl rfl ?_
        refine WL_nil ?_
        refine nrm_sub (l' := [(0, u1), (3, (.slice (some ⟨b1, 0, none⟩) (Int.toNat (List.length a1 : Int)) (Int.toNat (List.length a1 : Int)))), (4, (.int .i64 (w64 (x3 + 1))))]) ⟨rfl, rfl, rfl, trivial⟩ ?_
        exact ⟨k1, Nat.lt_succ_self _, (List.set x2 (Int.toNat x3) x5), w64 (x3 + 1), rfl, hC3, hL1⟩
      · replace hL1 := ite_f hL1 hc1
        refine W_exit ?_
        refine nrm_exit ?_
        refine nrm_exit ?_
        refine blk_exit ?_
        have hq1 := Option.some.inj hL1
        subst hq1
        refine nrm_sub (l' := [(3, (.slice (some ⟨b1, 0, none⟩) (Int.toNat (List.length a1 : Int)) (Int.toNat (List.length a1 : Int))))]) ⟨rfl, trivial⟩ ?_
        exact ⟨x2, rfl, rfl, hC2⟩
  · rintro l2 _ w4 hs2 ⟨x4, rfl, rfl, hC5⟩
    try dsimp only at hF
    refine nrm_sub' hs2 ?_
    clear hs2
    refine W_seq_reg ?_
    refine WL_move rfl rfl ?_
    refine WL_assign rfl rfl ?_
    refine WL_nil ?_
    refine W_ret ?_
    have hq2 := Option.some.inj hF
    subst hq2
    refine fn_ret1 rfl rfl ?_
    exact ⟨_, rfl, own_res hC5 0 rfl⟩

theorem c_Q_toWindow {w0 : World} (a1 : (Int × Int)) (rr : (Int × Int)) (hF : Q.toWindow a1 = some rr) :
    Calls Try.prog 28 [(.agg #[(.int .i64 a1.1), (.int .i64 a1.2)])].toArray w0 fun e w' => ∃ v, e = .returned v ∧ Res w0 rr v w' := by
  refine calls_of_W Try.func28 rfl rfl ?_
  have hC0 := Ctx.start w0
  unfold Q.toWindow at hF
  refine W_seq_reg ?_
  refine WL_box (cs := [(.int .i64 a1.1), (.int .i64 a1.2)]) hC0 rfl rfl rfl (fun b1 w1 hC1 hB1 => ?_)
  refine WL_alloc hC1 zero41 rfl rfl (fun b2 w2 hC2 hB2 => ?_)
  refine WL_nil ?_
  refine W_seq_reg ?_
  refine WL_alloc hC2 zero41 rfl rfl (fun b3 w3 hC3 hB3 => ?_)
  refine WL_nil ?_
  refine W_seq_reg ?_
  refine WL_field Try.underlying37 rfl rfl (fun w => ⟨_, Try.sizeOf3 w⟩) rfl rfl ?_
  refine WL_load_box hC3 2 rfl rfl Try.isAgg3 rfl rfl ?_
  refine WL_field Try.underlying41 rfl rfl (fun w => ⟨_, Try.sizeOf3 w⟩) rfl rfl ?_
  refine WL_store_box (cs' := [(.int .i64 a1.1), (.int .i64 0)]) hC3 0 rfl rfl rfl rfl Try.sizeOf3 rfl rfl (fun w4 hC4 => ?_)
  try dsimp only [List.set] at hC4
  refine WL_nil ?_
  refine W_seq_reg ?_
  refine WL_field Try.underlying37 rfl rfl (fun w => ⟨_, Try.sizeOf3 w⟩) rfl rfl ?_
  refine WL_load_box hC4 2 rfl rfl Try.isAgg3 rfl rfl ?_
  refine WL_field Try.underlying41 rfl rfl (fun w => ⟨_, Try.sizeOf3 w⟩) rfl rfl ?_
  refine WL_store_box (cs' := [(.int .i64 a1.1), (.int .i64 a1.2)]) hC4 0 rfl rfl rfl rfl Try.sizeOf3 rfl rfl (fun w5 hC5 => ?_)
  try dsimp only [List.set] at hC5
  refine WL_nil ?_
  refine W_seq_reg ?_
  refine WL_load_box_agg [(.int .i64 a1.1), (.int .i64 a1.2)] hC5 0 rfl rfl rfl Try.isAgg41 Try.sizeOf41 rfl rfl ?_
  refine WL_store_box_agg (cs' := [(.int .i64 a1.1), (.int .i64 a1.2)]) (new := [(.int .i64 a1.1), (.int .i64 a1.2)]) hC5 1 rfl rfl (by intro v hv; simp only [List.mem_cons, List.not_mem_nil, or_false] at hv; rcases hv with rfl | rfl; exact rfl; exact rfl) rfl Try.sizeOf41 rfl rfl (fun w6 hC6 => ?_)
  try dsimp only [List.set] at hC6
  refine WL_nil ?_
  refine W_ret ?_
  have hq1 := Option.some.inj hF
  subst hq1
  refine fn_retG1 rfl (rv_cell_agg (cs' := [(.int .i64 a1.1), (.int .i64 a1.2)]) hC6 (i := 1) rfl rfl rfl Try.isAgg41 Try.sizeOf41 rfl) ?_
  have hC7 := own_st41 a1.1 a1.2 hC6
  exact ⟨_, rfl, own_res hC7 0 rfl⟩

theorem c_M_bit {w0 : World} (a1 : Bool) (rr : Int) (hF : M.bit a1 = some rr) :
    Calls Try.prog 104 [(.bool a1)].toArray w0 fun e w' => ∃ v, e = .returned v ∧ Res w0 rr v w' := by
  refine calls_of_W Try.func104 rfl rfl ?_
  have hC0 := Ctx.start w0
  unfold M.bit at hF
  refine W_seq_reg ?_
  refine WL_assign rfl rfl ?_
  refine WL_nil ?_
  refine W_seq ?_
  refine W_seq_reg ?_
  refine WL_move rfl rfl ?_
  refine WL_nil ?_
  refine W_cond rfl (fun hc1 => ?_) (fun hc1 => ?_)
  · replace hF := ite_t hF hc1
    refine W_seq_reg ?_
    refine WL_assign rfl rfl ?_
    refine WL_nil ?_
    refine W_ret ?_
    refine nrm_ret ?_
    have hq1 := Option.some.inj hF
    subst hq1
    refine fn_ret1 rfl rfl ?_
    exact ⟨_, rfl, int_res hC0 _⟩
  · replace hF := ite_f hF hc1
    refine W_skip ?_
    refine nrm_normal ?_
    refine W_seq_reg ?_
    refine WL_assign rfl rfl ?_
    refine WL_nil ?_
    refine W_ret ?_
    have hq2 := Option.some.inj hF
    subst hq2
    refine fn_ret1 rfl rfl ?_
    exact ⟨_, rfl, int_res hC0 _⟩

theorem c_M_CallsIn {w0 : World} (a1 : (List Int)) (u1 : Value) (g1 : RO [] w0 u1 a1) (a2 : Int) (a3 : Int) (rr : Int) (hF : M.CallsIn a1 a2 a3 = some rr) :
    Calls Try.prog 62 [u1, (.int .i64 a2), (.int .i64 a3)].toArray w0 fun e w' => ∃ v, e = .returned v ∧ Res w0 rr v w' := by
  refine calls_of_W Try.func62 rfl rfl ?_
  have hC0 := Ctx.start w0
  unfold M.CallsIn at hF
  refine W_seq_reg ?_
  refine WL_assign rfl rfl ?_
  refine WL_nil ?_
  refine W_seq_reg ?_
  refine WL_assign rfl rfl ?_
  refine WL_nil ?_
  refine W_seq ?_
  refine W_seq_reg ?_
  refine WL_move rfl rfl ?_
  refine WL_len Try.underlying27 g1 rfl rfl ?_
  refine WL_move rfl rfl ?_
  refine WL_nil ?_
  obtain ⟨r1, hr1, hF⟩ := bind_some hF
  refine W_norm (fun l w => ∃ x3 : Int, x3 = r1 ∧ l = [(7, (.int .i64 x3))] ∧ Below w0.heap.size w0 w ∧ Ctx [] w0 w []) ?_ ?_
  · refine W_block ?_
    refine W.sub (l' := [(1, (.int .i64 a2)), (2, (.int .i64 a3)), (7, (.int .i64 0)), (10, u1), (11, (.int .i64 (List.length a1 : Int))), (12, (.int .i64 0))]) ?_ ⟨rfl, rfl, rfl, rfl, rfl, rfl, trivial⟩
    refine W_loop (fun k l w => ∃ x1 : Int, ∃ x2 : Int, l = [(1, (.int .i64 a2)), (2, (.int .i64 a3)), (7, (.int .i64 x1)), (10, u1), (11, (.int .i64 (List.length a1 : Int))), (12, (.int .i64 x2))] ∧ Below w0.heap.size w0 w ∧ Ctx [] w0 w [] ∧ M.CallsIn_l1 a1 a2 a3 k x1 x2 = some r1) FUEL ⟨0, 0, rfl, (Below.refl _ _), hC0, hr1⟩ ?_
    clear hr1
    rintro k1 _ w1 ⟨x1, x2, rfl, hB1, hC1, hL1⟩
    cases k1 with
    | zero => rw [M.CallsIn_l1] at hL1; cases hL1
    | succ k1 =>
      rw [M.CallsIn_l1] at hL1
      refine W_seq_reg ?_
      refine WL_lss rfl rfl rfl ?_
      refine WL_nil ?_
      refine W_seq ?_
      refine W_cond rfl (fun hc1 => ?_) (fun hc1 => ?_)
      · replace hL1 := ite_t hL1 hc1
        refine W_skip ?_
        refine nrm_normal ?_
        refine W_seq ?_
        refine W_block ?_
        refine W_seq_reg ?_
        obtain ⟨x4, hx1, hL1⟩ := bind_some hL1
        refine WL_index Try.underlying27 ty3 g1 hx1 rfl rfl rfl (fun b1 o1 h1 => ?_)
        refine WL_load ty3 h1 hC1.keep rfl rfl (fun v1 h2 => ?_)
        obtain rfl := ro_int h2
        refine WL_assign rfl rfl ?_
        refine WL_nil ?_
        obtain ⟨r2, hr2, hL1⟩ := bind_some hL1
        refine W_norm (fun l w => ∃ x5 : Int, x5 = r2 ∧ l = [(1, (.int .i64 a2)), (2, (.int .i64 a3)), (7, (.int .i64 x5)), (10, u1), (11, (.int .i64 (List.length a1 : Int))), (12, (.int .i64 x2))] ∧ Below w1.heap.size w1 w ∧ Ctx [] w0 w []) ?_ ?_
        · refine W_reg ?_
          refine WL_move rfl rfl ?_
          refine WL_move rfl rfl ?_
          refine WL_geq rfl rfl rfl ?_
          refine WL_move rfl rfl ?_
          refine WL_fork (fun hc2 => ?_) (fun hc2 => ?_)
          · replace hr2 := ite_t hr2 hc2
            refine WL_guard rfl rfl ?_
            refine WL_move rfl rfl ?_
            refine WL_guard rfl rfl ?_
            refine WL_move rfl rfl ?_
            refine WL_guard rfl rfl ?_
            refine WL_geq rfl rfl rfl ?_
            refine WL_pick_t rfl rfl rfl ?_
            refine WL_move rfl rfl ?_
            refine WL_fork (fun hc3 => ?_) (fun hc3 => ?_)
            · replace hr2 := ite_t hr2 hc3
              refine WL_guard rfl rfl ?_
              refine WL_move rfl rfl ?_
              refine WL_guard rfl rfl ?_
              refine WL_move rfl rfl ?_
              refine WL_guard rfl rfl ?_
              refine WL_sub rfl rfl rfl ?_
              refine WL_guard rfl rfl ?_
              refine WL_move rfl rfl ?_
              refine WL_guard rfl rfl ?_
              refine WL_lss rfl rfl rfl ?_
              refine WL_pick_t rfl rfl rfl ?_
              obtain ⟨x6, hr3, hr2⟩ := bind_some hr2
              refine WL_call Try.call104 rfl rfl (c_M_bit (decide ((w64 (x4 - a2)) < a3)) x6 hr3) ?_
              intro _ w3 hv1
              obtain ⟨rfl, hB3⟩ := res_int hv1
              have hC3 := hC1.grow hB3
              refine WL_add rfl rfl rfl ?_
              refine WL_assign rfl rfl ?_
              refine WL_nil ?_
              have hq1 := Option.some.inj hr2
              subst hq1
              refine nrm_sub (l' := [(1, (.int .i64 a2)), (2, (.int .i64 a3)), (7, (.int .i64 (w64 (x1 + x6)))), (10, u1), (11, (.int .i64 (List.length a1 : Int))), (12, (.int .i64 x2))]) ⟨rfl, rfl, rfl, rfl, rfl, rfl, trivial⟩ ?_
              exact ⟨w64 (x1 + x6), rfl, rfl, (Keep.of hB3).below, hC3⟩
            · replace hr2 := ite_f hr2 hc3
              refine WL_guard_skip rfl rfl (by simp) rfl ?_
              refine WL_guard_skip rfl rfl (by simp) rfl ?_
              refine WL_guard_skip rfl rfl (by simp) rfl ?_
              refine WL_guard_skip rfl rfl (by simp) rfl ?_
              refine WL_guard_skip rfl rfl (by simp) rfl ?_
              refine WL_pick_f rfl rfl rfl ?_
              obtain ⟨x7, hr4, hr2⟩ := bind_some hr2
              refine WL_call Try.call104 rfl rfl (c_M_bit false x7 hr4) ?_
              intro _ w4 hv2
              obtain ⟨rfl, hB4⟩ := res_int hv2
              have hC4 := hC1.grow hB4
              refine WL_add rfl rfl rfl ?_
              refine WL_assign rfl rfl ?_
              refine WL_nil ?_
              have hq2 := Option.some.inj hr2
              subst hq2
              refine nrm_sub (l' := [(1, (.int .i64 a2)), (2, (.int .i64 a3)), (7, (.int .i64 (w64 (x1 + x7)))), (10, u1), (11, (.int .i64 (List.length a1 : Int))), (12, (.int .i64 x2))]) ⟨rfl, rfl, rfl, rfl, rfl, rfl, trivial⟩ ?_
              exact ⟨w64 (x1 + x7), rfl, rfl, (Keep.of hB4).below, hC4⟩
          · replace hr2 := ite_f hr2 hc2
            refine WL_guard_skip rfl rfl (by simp) rfl ?_
            refine WL_guard_skip rfl rfl (by simp) rfl ?_
            refine WL_guard_skip rfl rfl (by simp) rfl ?_
            refine WL_pick_f rfl rfl rfl ?_
            refine WL_move rfl rfl ?_
            refine WL_guard_skip rfl rfl (by simp) rfl ?_
            refine WL_guard_skip rfl rfl (by simp) rfl ?_
            refine WL_guard_skip rfl rfl (by simp) rfl ?_
            refine WL_guard_skip rfl rfl (by simp) rfl ?_
            refine WL_guard_skip rfl rfl (by simp) rfl ?_
            refine WL_pick_f rfl rfl rfl ?_
            obtain ⟨x8, hr5, hr2⟩ := bind_some hr2
            refine WL_call Try.call104 rfl rfl (c_M_bit false x8 hr5) ?_
            intro _ w5 hv3
            obtain ⟨rfl, hB5⟩ := res_int hv3
            have hC5 := hC1.grow hB5
            refine WL_add rfl rfl rfl ?_
            refine WL_assign rfl rfl ?_
            refine WL_nil ?_
            have hq3 := Option.some.inj hr2
            subst hq3
            refine nrm_sub (l' := [(1, (.int .i64 a2)), (2, (.int .i64 a3)), (7, (.int .i64 (w64 (x1 + x8)))), (10, u1), (11, (.int .i64 (List.length a1 : Int))), (12, (.int .i64 x2))]) ⟨rfl, rfl, rfl, rfl, rfl, rfl, trivial⟩ ?_
            exact ⟨w64 (x1 + x8), rfl, rfl, (Keep.of hB5).below, hC5⟩
        · rintro l2 _ w2 hs2 ⟨x5, rfl, rfl, hB2, hC2⟩
          try dsimp only at hL1
          refine blk_normal ?_
          refine nrm_sub' hs2 ?_
          clear hs2
          refine W_reg ?_
          refine WL_add rfl rfl rfl ?_
          refine WL_move rfl rfl ?_
          refine WL_nil ?_
          refine nrm_sub (l' := [(1, (.int .i64 a2)), (2, (.int .i64 a3)), (7, (.int .i64 x5)), (10, u1), (11, (.int .i64 (List.length a1 : Int))), (12, (.int .i64 (w64 (x2 + 1))))]) ⟨rfl, rfl, rfl, rfl, rfl, rfl, trivial⟩ ?_
          exact ⟨k1, Nat.lt_succ_self _, x5, w64 (x2 + 1), rfl, ((Keep.of hB1).then hB2).below, hC2, hL1⟩
      · replace hL1 := ite_f hL1 hc1
        refine W_exit ?_
        refine nrm_exit ?_
        refine nrm_exit ?_
        refine blk_exit ?_
        have hq4 := Option.some.inj hL1
        subst hq4
        refine nrm_sub (l' := [(7, (.int .i64 x1))]) ⟨rfl, trivial⟩ ?_
        exact ⟨x1, rfl, rfl, (Keep.of hB1).below, hC1⟩
  · rintro l3 _ w6 hs3 ⟨x3, rfl, rfl, hB6, hC6⟩
    try dsimp only at hF
    refine nrm_sub' hs3 ?_
    clear hs3
    refine W_seq_reg ?_
    refine WL_move rfl rfl ?_
    refine WL_assign rfl rfl ?_
    refine WL_nil ?_
    refine W_ret ?_
    have hq5 := Option.some.inj hF
    subst hq5
    refine fn_ret1 rfl rfl ?_
    exact ⟨_, rfl, int_res hC6 _⟩

theorem c_M_within {w0 : World} (a1 : Int) (a2 : Int) (a3 : Int) (rr : Bool) (hF : M.within a1 a2 a3 = some rr) :
    Calls Try.prog 84 [(.int .i64 a1), (.int .i64 a2), (.int .i64 a3)].toArray w0 fun e w' => ∃ v, e = .returned v ∧ Res w0 rr v w' := by
  refine calls_of_W Try.func84 rfl rfl ?_
  have hC0 := Ctx.start w0
  unfold M.within at hF
  refine W_seq_reg ?_
  refine WL_assign rfl rfl ?_
  refine WL_nil ?_
  obtain ⟨r1, hr1, hF⟩ := bind_some hF
  refine W_cut (fun l w => ∃ x1 : Bool, x1 = r1 ∧ l = [(6, (.bool x1))] ∧ Below w0.heap.size w0 w ∧ Ctx [] w0 w []) ?_ ?_
  · refine W_reg ?_
    refine WL_move rfl rfl ?_
    refine WL_move rfl rfl ?_
    refine WL_geq rfl rfl rfl ?_
    refine WL_move rfl rfl ?_
    refine WL_fork (fun hc1 => ?_) (fun hc1 => ?_)
    · replace hr1 := ite_t hr1 hc1
      refine WL_guard rfl rfl ?_
      refine WL_move rfl rfl ?_
      refine WL_guard rfl rfl ?_
      refine WL_move rfl rfl ?_
      refine WL_guard rfl rfl ?_
      refine WL_leq rfl rfl rfl ?_
      refine WL_pick_t rfl rfl rfl ?_
      refine WL_assign rfl rfl ?_
      refine WL_nil ?_
      have hq1 := Option.some.inj hr1
      subst hq1
      refine nrm_sub (l' := [(6, (.bool (decide (a1 ≤ a3))))]) ⟨rfl, trivial⟩ ?_
      exact ⟨(decide (a1 ≤ a3)), rfl, rfl, (Below.refl _ _), hC0⟩
    · replace hr1 := ite_f hr1 hc1
      refine WL_guard_skip rfl rfl (by simp) rfl ?_
      refine WL_guard_skip rfl rfl (by simp) rfl ?_
      refine WL_guard_skip rfl rfl (by simp) rfl ?_
      refine WL_pick_f rfl rfl rfl ?_
      refine WL_assign rfl rfl ?_
      refine WL_nil ?_
      have hq2 := Option.some.inj hr1
      subst hq2
      refine nrm_sub (l' := [(6, (.bool false))]) ⟨rfl, trivial⟩ ?_
      exact ⟨false, rfl, rfl, (Below.refl _ _), hC0⟩
  · rintro _ w1 ⟨x1, rfl, rfl, hB1, hC1⟩
    try dsimp only at hF
    refine W_ret ?_
    have hq3 := Option.some.inj hF
    subst hq3
    refine fn_ret1 rfl rfl ?_
    exact ⟨_, rfl, bool_res hC1 _⟩

theorem c_M_IsWindow {w0 : World} (a1 : (Int × Int)) (rr : Bool) (hF : M.IsWindow a1 = some rr) :
    Calls Try.prog 63 [(.agg #[(.int .i64 a1.1), (.int .i64 a1.2)])].toArray w0 fun e w' => ∃ v, e = .returned v ∧ Res w0 rr v w' := by
  refine calls_of_W Try.func63 rfl rfl ?_
  have hC0 := Ctx.start w0
  unfold M.IsWindow at hF
  refine W_seq_reg ?_
  refine WL_box (cs := [(.int .i64 a1.1), (.int .i64 a1.2)]) hC0 rfl rfl rfl (fun b1 w1 hC1 hB1 => ?_)
  refine WL_assign rfl rfl ?_
  refine WL_nil ?_
  obtain ⟨r1, hr1, hF⟩ := bind_some hF
  refine W_cut (fun l w => ∃ x1 : Bool, x1 = r1 ∧ l = [(2, (.bool x1))] ∧ Below w1.heap.size w1 w ∧ Ctx [] w0 w []) ?_ ?_
  · refine W_reg ?_
    refine WL_field Try.underlying41 rfl rfl (fun w => ⟨_, Try.sizeOf3 w⟩) rfl rfl ?_
    refine WL_load_box hC1 0 rfl rfl Try.isAgg3 rfl rfl ?_
    obtain ⟨x2, hr2, hr1⟩ := bind_some hr1
    refine WL_call Try.call84 rfl rfl (c_M_within a1.1 1 100 x2 hr2) ?_
    intro _ w3 hv1
    obtain ⟨rfl, hB3⟩ := res_bool hv1
    have hC3 := hC1.grow hB3
    refine WL_move rfl rfl ?_
    refine WL_fork (fun hc1 => ?_) (fun hc1 => ?_)
    · replace hr1 := ite_t hr1 hc1
      refine WL_guard rfl rfl ?_
      refine WL_field Try.underlying41 rfl rfl (fun w => ⟨_, Try.sizeOf3 w⟩) rfl rfl ?_
      refine WL_guard rfl rfl ?_
      refine WL_load_box hC3 0 rfl rfl Try.isAgg3 rfl rfl ?_
      obtain ⟨x3, hr3, hr1⟩ := bind_some hr1
      refine WL_guard rfl rfl ?_
      refine WL_call Try.call84 rfl rfl (c_M_within a1.2 1 99 x3 hr3) ?_
      intro _ w4 hv2
      obtain ⟨rfl, hB4⟩ := res_bool hv2
      have hC4 := hC3.grow hB4
      refine WL_pick_t rfl rfl rfl ?_
      refine WL_assign rfl rfl ?_
      refine WL_nil ?_
      have hq1 := Option.some.inj hr1
      subst hq1
      have hC5 := hC4.headN 0
      dsimp only [List.take] at hC5
      refine nrm_sub (l' := [(2, (.bool x3))]) ⟨rfl, trivial⟩ ?_
      exact ⟨x3, rfl, rfl, ((Keep.of hB3).then hB4).below, hC5⟩
    · replace hr1 := ite_f hr1 hc1
      refine WL_guard_skip rfl rfl (by simp) rfl ?_
      refine WL_guard_skip rfl rfl (by simp) rfl ?_
      refine WL_guard_skip rfl rfl (by simp) rfl ?_
      refine WL_pick_f rfl rfl rfl ?_
      refine WL_assign rfl rfl ?_
      refine WL_nil ?_
      have hq2 := Option.some.inj hr1
      subst hq2
      have hC6 := hC3.headN 0
      dsimp only [List.take] at hC6
      refine nrm_sub (l' := [(2, (.bool false))]) ⟨rfl, trivial⟩ ?_
      exact ⟨false, rfl, rfl, (Keep.of hB3).below, hC6⟩
  · rintro _ w2 ⟨x1, rfl, rfl, hB2, hC2⟩
    try dsimp only at hF
    refine W_ret ?_
    have hq3 := Option.some.inj hF
    subst hq3
    refine fn_ret1 rfl rfl ?_
    exact ⟨_, rfl, bool_res hC2 _⟩

theorem c_M_isTime {w0 : World} (a1 : Int) (rr : Bool) (hF : M.isTime a1 = some rr) :
    Calls Try.prog 85 [(.int .i64 a1)].toArray w0 fun e w' => ∃ v, e = .returned v ∧ Res w0 rr v w' := by
  refine calls_of_W Try.func85 rfl rfl ?_
  have hC0 := Ctx.start w0
  unfold M.isTime at hF
  refine W_seq_reg ?_
  refine WL_assign rfl rfl ?_
  refine WL_nil ?_
  refine W_seq_reg ?_
  refine WL_move rfl rfl ?_
  obtain ⟨x1, hr1, hF⟩ := bind_some hF
  refine WL_call Try.call84 rfl rfl (c_M_within a1 0 10000 x1 hr1) ?_
  intro _ w1 hv1
  obtain ⟨rfl, hB1⟩ := res_bool hv1
  have hC1 := hC0.grow hB1
  refine WL_assign rfl rfl ?_
  refine WL_nil ?_
  refine W_ret ?_
  have hq1 := Option.some.inj hF
  subst hq1
  refine fn_ret1 rfl rfl ?_
  exact ⟨_, rfl, bool_res hC1 _⟩

theorem c_M_IsKept {w0 : World} (a1 : (List Int)) (u1 : Value) (g1 : RO [] w0 u1 a1) (a2 : (Int × Int)) (rr : Bool) (hF : M.IsKept a1 a2 = some rr) :
    Calls Try.prog 56 [u1, (.agg #[(.int .i64 a2.1), (.int .i64 a2.2)])].toArray w0 fun e w' => ∃ v, e = .returned v ∧ Res w0 rr v w' := by
  refine calls_of_W Try.func56 rfl rfl ?_
  have hC0 := Ctx.start w0
  unfold M.IsKept at hF
  refine W_seq_reg ?_
  refine WL_box (cs := [(.int .i64 a2.1), (.int .i64 a2.2)]) hC0 rfl rfl rfl (fun b1 w1 hC1 hB1 => ?_)
  refine WL_assign rfl rfl ?_
  refine WL_nil ?_
  refine W_seq ?_
  obtain ⟨r1, hr1, hF⟩ := bind_some hF
  refine W_cut (fun l w => ∃ x1 : Bool, x1 = r1 ∧ l = [(0, u1), (3, (ptr b1 0)), (14, (.bool x1))] ∧ Below w1.heap.size w1 w ∧ Ctx [] w0 w [Item.box b1 [(.int .i64 a2.1), (.int .i64 a2.2)]]) ?_ ?_
  · refine W_reg ?_
    refine WL_move rfl rfl ?_
    refine WL_len Try.underlying27 g1 rfl rfl ?_
    refine WL_gtr rfl rfl rfl ?_
    refine WL_move rfl rfl ?_
    refine WL_fork (fun hc1 => ?_) (fun hc1 => ?_)
    · replace hr1 := ite_t hr1 hc1
      refine WL_guard_skip rfl rfl (by simp) rfl ?_
      refine WL_guard_skip rfl rfl (by simp) rfl ?_
      refine WL_guard_skip rfl rfl (by simp) rfl ?_
      refine WL_pick_t rfl rfl rfl ?_
      refine WL_nil ?_
      have hq1 := Option.some.inj hr1
      subst hq1
      refine nrm_sub (l' := [(0, u1), (3, (ptr b1 0)), (14, (.bool true))]) ⟨rfl, rfl, rfl, trivial⟩ ?_
      exact ⟨true, rfl, rfl, (Below.refl _ _), hC1⟩
    · replace hr1 := ite_f hr1 hc1
      refine WL_guard rfl rfl ?_
      refine WL_load_box_agg [(.int .i64 a2.1), (.int .i64 a2.2)] hC1 0 rfl rfl rfl Try.isAgg41 Try.sizeOf41 rfl rfl ?_
      obtain ⟨x2, hr2, hr1⟩ := bind_some hr1
      refine WL_guard rfl rfl ?_
      refine WL_call Try.call63 rfl rfl (c_M_IsWindow (a2.1, a2.2) x2 hr2) ?_
      intro _ w3 hv1
      obtain ⟨rfl, hB3⟩ := res_bool hv1
      have hC3 := hC1.grow hB3
      refine WL_guard rfl rfl ?_
      refine WL_not rfl rfl ?_
      refine WL_pick_f rfl rfl rfl ?_
      refine WL_nil ?_
      have hq2 := Option.some.inj hr1
      subst hq2
      refine nrm_sub (l' := [(0, u1), (3, (ptr b1 0)), (14, (.bool (!x2)))]) ⟨rfl, rfl, rfl, trivial⟩ ?_
      exact ⟨(!x2), rfl, rfl, (Keep.of hB3).below, hC3⟩
  · rintro _ w2 ⟨x1, rfl, rfl, hB2, hC2⟩
    try dsimp only at hF
    refine W_cond rfl (fun hc2 => ?_) (fun hc2 => ?_)
    · replace hF := ite_t hF hc2
      refine W_seq_reg ?_
      refine WL_assign rfl rfl ?_
      refine WL_nil ?_
      refine W_ret ?_
      refine nrm_ret ?_
      have hq3 := Option.some.inj hF
      subst hq3
      refine fn_ret1 rfl rfl ?_
      exact ⟨_, rfl, bool_res hC2 _⟩
    · replace hF := ite_f hF hc2
      refine W_skip ?_
      refine nrm_normal ?_
      refine W_seq ?_
      refine W_seq_reg ?_
      refine WL_move rfl rfl ?_
      refine WL_len Try.underlying27 g1 rfl rfl ?_
      refine WL_move rfl rfl ?_
      refine WL_nil ?_
      obtain ⟨r2, hr3, hF⟩ := bind_some hF
      refine W_norm (fun l w => .inl () = r2 ∧ l = [] ∧ Below w2.heap.size w2 w ∧ Ctx [] w0 w []) ?_ ?_
      · refine W_block ?_
        refine W.sub (l' := [(0, u1), (3, (ptr b1 0)), (15, u1), (16, (.int .i64 (List.length a1 : Int))), (17, (.int .i64 0))]) ?_ ⟨rfl, rfl, rfl, rfl, rfl, trivial⟩
        refine W_loop (fun k l w => ∃ x3 : Int, l = [(0, u1), (3, (ptr b1 0)), (15, u1), (16, (.int .i64 (List.length a1 : Int))), (17, (.int .i64 x3))] ∧ Below w2.heap.size w2 w ∧ Ctx [] w0 w [Item.box b1 [(.int .i64 a2.1), (.int .i64 a2.2)]] ∧ M.IsKept_l1 a1 a2 k x3 = some r2) FUEL ⟨0, rfl, (Below.refl _ _), hC2, hr3⟩ ?_
        clear hr3
        rintro k1 _ w4 ⟨x3, rfl, hB4, hC4, hL1⟩
        cases k1 with
        | zero => rw [M.IsKept_l1] at hL1; cases hL1
        | succ k1 =>
          rw [M.IsKept_l1] at hL1
          refine W_seq_reg ?_
          refine WL_lss rfl rfl rfl ?_
          refine WL_nil ?_
          refine W_seq ?_
          refine W_cond rfl (fun hc3 => ?_) (fun hc3 => ?_)
          · replace hL1 := ite_t hL1 hc3
            refine W_skip ?_
            refine nrm_normal ?_
            refine W_seq ?_
            refine W_block ?_
            refine W_seq_reg ?_
            refine WL_move rfl rfl ?_
            obtain ⟨x4, hx1, hL1⟩ := bind_some hL1
            refine WL_index Try.underlying27 ty3 g1 hx1 rfl rfl rfl (fun b2 o1 h1 => ?_)
            refine WL_load ty3 h1 hC4.keep rfl rfl (fun v1 h2 => ?_)
            obtain rfl := ro_int h2
            refine WL_assign rfl rfl ?_
            refine WL_assign rfl rfl ?_
            refine WL_nil ?_
            obtain ⟨r3, hr4, hL1⟩ := bind_some hL1
            refine W_cut (fun l w => ∃ x5 : Bool, x5 = r3 ∧ l = [(0, u1), (3, (ptr b1 0)), (15, u1), (16, (.int .i64 (List.length a1 : Int))), (17, (.int .i64 x3)), (47, (.bool x5))] ∧ Below w4.heap.size w4 w ∧ Ctx [] w0 w [Item.box b1 [(.int .i64 a2.1), (.int .i64 a2.2)]]) ?_ ?_
            · obtain ⟨x6, hr5, hr4⟩ := bind_some hr4
              rcases btf (!x6) with hc4 | hc4
              · replace hr4 := ite_t hr4 hc4
                refine W.sub (l' := [(0, u1), (3, (ptr b1 0)), (5, (.int .i64 x3)), (6, (.int .i64 x4)), (15, u1), (16, (.int .i64 (List.length a1 : Int))), (17, (.int .i64 x3)), (18, (.bool (decide (x3 < (List.length a1 : Int))))), (19, (.int .i64 x3)), (20, (ptr b2 o1)), (21, (.int .i64 x4))]) ?_ ⟨rfl, rfl, rfl, rfl, rfl, rfl, rfl, rfl, rfl, rfl, rfl, trivial⟩
                refine W_any 24 [PV.val (.int .i64 x4), PV.val (.bool x6), PV.val (.bool (!x6)), PV.val (.bool true), PV.val undef, PV.val undef, PV.val undef, PV.val undef, PV.val undef, PV.val undef, PV.val undef, PV.val undef, PV.val undef, PV.val undef, PV.val undef, PV.val (.bool true), PV.val (.bool true), PV.val undef, PV.val undef, PV.val undef, PV.val undef, PV.val undef, PV.val undef, PV.val undef] [[], [0], [1], [2], [3], [3, 4], [3, 5], [6], [6], [6], [6, 9], [6, 8, 10], [6, 11], [6, 7, 12], [3, 6, 13], [3, 14], [15], [16], [16], [16], [16, 19], [16, 17, 18, 20], [16], [16, 22]] hmix (by kernel_rfl) rfl ?_ ?_
                · refine Steps_cons ?_ ?_
                  · intro w7 hB7
                    refine DepsK_nil ?_
                    refine WL_move rfl rfl ?_
                    refine WL_nil ?_
                    exact Fin1_val (Below.refl _ _) rfl rfl ⟨rfl, rfl⟩
                  refine Steps_cons ?_ ?_
                  · intro w7 hB7
                    refine DepsK_cons rfl rfl ?_
                    rintro _ _ ⟨rfl, rfl⟩
                    refine DepsK_nil ?_
                    refine WL_call Try.call85 rfl rfl (c_M_isTime x4 x6 hr5) ?_
                    intro _ w6 hv2
                    obtain ⟨rfl, hB6⟩ := res_bool hv2
                    refine WL_nil ?_
                    exact Fin1_val hB6 rfl rfl ⟨rfl, rfl⟩
                  refine Steps_cons ?_ ?_
                  · intro w7 hB7
                    refine DepsK_cons rfl rfl ?_
                    rintro _ _ ⟨rfl, rfl⟩
                    refine DepsK_nil ?_
                    refine WL_not rfl rfl ?_
                    refine WL_nil ?_
                    exact Fin1_val (Below.refl _ _) rfl rfl ⟨rfl, rfl⟩
                  refine Steps_cons ?_ ?_
                  · intro w7 hB7
                    refine DepsK_cons rfl rfl ?_
                    rintro _ _ ⟨rfl, rfl⟩
                    refine DepsK_nil ?_
                    refine WL_move rfl rfl ?_
                    refine WL_known hc4 ?_
                    refine WL_nil ?_
                    exact Fin1_val (Below.refl _ _) rfl rfl ⟨rfl, rfl⟩
                  refine Steps_cons ?_ ?_
                  · intro w7 hB7
                    refine DepsK_cons rfl rfl ?_
                    rintro _ _ ⟨rfl, rfl⟩
                    refine DepsK_nil ?_
                    refine WL_guard_skip rfl rfl (by simp) rfl ?_
                    refine WL_nil ?_
                    exact Fin1_val (Below.refl _ _) rfl rfl ⟨rfl, rfl⟩
                  refine Steps_cons ?_ ?_
                  · intro w7 hB7
                    refine DepsK_cons rfl rfl ?_
                    rintro _ _ ⟨rfl, rfl⟩
                    refine DepsK_cons rfl rfl ?_
                    rintro _ _ ⟨rfl, rfl⟩
                    refine DepsK_nil ?_
                    refine WL_guard_skip rfl rfl (by simp) rfl ?_
                    refine WL_nil ?_
                    exact Fin1_val (Below.refl _ _) rfl rfl ⟨rfl, rfl⟩
                  refine Steps_cons ?_ ?_
                  · intro w7 hB7
                    refine DepsK_cons rfl rfl ?_
                    rintro _ _ ⟨rfl, rfl⟩
                    refine DepsK_cons rfl rfl ?_
                    rintro _ _ ⟨rfl, rfl⟩
                    refine DepsK_nil ?_
                    refine WL_guard_skip rfl rfl (by simp) rfl ?_
                    refine WL_nil ?_
                    exact Fin1_val (Below.refl _ _) rfl rfl ⟨rfl, rfl⟩
                  refine Steps_cons ?_ ?_
                  · intro w7 hB7
                    refine DepsK_cons rfl rfl ?_
                    rintro _ _ ⟨rfl, rfl⟩
                    refine DepsK_nil ?_
                    refine WL_guard_skip rfl rfl (by simp [undef]) rfl ?_
                    refine WL_nil ?_
                    exact Fin1_val (Below.refl _ _) rfl rfl ⟨rfl, rfl⟩
                  refine Steps_cons ?_ ?_
                  · intro w7 hB7
                    refine DepsK_cons rfl rfl ?_
                    rintro _ _ ⟨rfl, rfl⟩
                    refine DepsK_nil ?_
                    refine WL_guard_skip rfl rfl (by simp [undef]) rfl ?_
                    refine WL_nil ?_
                    exact Fin1_val (Below.refl _ _) rfl rfl ⟨rfl, rfl⟩
                  refine Steps_cons ?_ ?_
                  · intro w7 hB7
                    refine DepsK_cons rfl rfl ?_
                    rintro _ _ ⟨rfl, rfl⟩
                    refine DepsK_nil ?_
                    refine WL_guard_skip rfl rfl (by simp [undef]) rfl ?_
                    refine WL_nil ?_
                    exact Fin1_val (Below.refl _ _) rfl rfl ⟨rfl, rfl⟩
                  refine Steps_cons ?_ ?_
                  · intro w7 hB7
                    refine DepsK_cons rfl rfl ?_
                    rintro _ _ ⟨rfl, rfl⟩
                    refine DepsK_cons rfl rfl ?_
                    rintro _ _ ⟨rfl, rfl⟩
                    refine DepsK_nil ?_
                    refine WL_guard_skip rfl rfl (by simp [undef]) rfl ?_
                    refine WL_nil ?_
                    exact Fin1_val (Below.refl _ _) rfl rfl ⟨rfl, rfl⟩
                  refine Steps_cons ?_ ?_
                  · intro w7 hB7
                    refine DepsK_cons rfl rfl ?_
                    rintro _ _ ⟨rfl, rfl⟩
                    refine DepsK_cons rfl rfl ?_
                    rintro _ _ ⟨rfl, rfl⟩
                    refine DepsK_cons rfl rfl ?_
                    rintro _ _ ⟨rfl, rfl⟩
                    refine DepsK_nil ?_
                    refine WL_guard_skip rfl rfl (by simp [undef]) rfl ?_
                    refine WL_nil ?_
                    exact Fin1_val (Below.refl _ _) rfl rfl ⟨rfl, rfl⟩
                  refine Steps_cons ?_ ?_
                  · intro w7 hB7
                    refine DepsK_cons rfl rfl ?_
                    rintro _ _ ⟨rfl, rfl⟩
                    refine DepsK_cons rfl rfl ?_
                    rintro _ _ ⟨rfl, rfl⟩
                    refine DepsK_nil ?_
                    refine WL_guard_skip rfl rfl (by simp [undef]) rfl ?_
                    refine WL_nil ?_
                    exact Fin1_val (Below.refl _ _) rfl rfl ⟨rfl, rfl⟩
                  refine Steps_cons ?_ ?_
                  · intro w7 hB7
                    refine DepsK_cons rfl rfl ?_
                    rintro _ _ ⟨rfl, rfl⟩
                    refine DepsK_cons rfl rfl ?_
                    rintro _ _ ⟨rfl, rfl⟩
                    refine DepsK_cons rfl rfl ?_
                    rintro _ _ ⟨rfl, rfl⟩
                    refine DepsK_nil ?_
                    refine WL_guard_skip rfl rfl (by simp [undef]) rfl ?_
                    refine WL_nil ?_
                    exact Fin1_val (Below.refl _ _) rfl rfl ⟨rfl, rfl⟩
                  refine Steps_cons ?_ ?_
                  · intro w7 hB7
                    refine DepsK_cons rfl rfl ?_
                    rintro _ _ ⟨rfl, rfl⟩
                    refine DepsK_cons rfl rfl ?_
                    rintro _ _ ⟨rfl, rfl⟩
                    refine DepsK_cons rfl rfl ?_
                    rintro _ _ ⟨rfl, rfl⟩
                    refine DepsK_nil ?_
                    refine WL_guard_skip rfl rfl (by simp) rfl ?_
                    refine WL_nil ?_
                    exact Fin1_val (Below.refl _ _) rfl rfl ⟨rfl, rfl⟩
                  refine Steps_cons ?_ ?_
                  · intro w7 hB7
                    refine DepsK_cons rfl rfl ?_
                    rintro _ _ ⟨rfl, rfl⟩
                    refine DepsK_cons rfl rfl ?_
                    rintro _ _ ⟨rfl, rfl⟩
                    refine DepsK_nil ?_
                    refine WL_pick_t rfl rfl rfl ?_
                    refine WL_nil ?_
                    exact Fin1_val (Below.refl _ _) rfl rfl ⟨rfl, rfl⟩
                  refine Steps_cons ?_ ?_
                  · intro w7 hB7
                    refine DepsK_cons rfl rfl ?_
                    rintro _ _ ⟨rfl, rfl⟩
                    refine DepsK_nil ?_
                    refine WL_move rfl rfl ?_
                    refine WL_nil ?_
                    exact Fin1_val (Below.refl _ _) rfl rfl ⟨rfl, rfl⟩
                  refine Steps_cons ?_ ?_
                  · intro w7 hB7
                    refine DepsK_cons rfl rfl ?_
                    rintro _ _ ⟨rfl, rfl⟩
                    refine DepsK_nil ?_
                    refine WL_guard_skip rfl rfl (by simp) rfl ?_
                    refine WL_nil ?_
                    exact Fin1_val (Below.refl _ _) rfl rfl ⟨rfl, rfl⟩
                  refine Steps_cons ?_ ?_
                  · intro w7 hB7
                    refine DepsK_cons rfl rfl ?_
                    rintro _ _ ⟨rfl, rfl⟩
                    refine DepsK_nil ?_
                    refine WL_guard_skip rfl rfl (by simp) rfl ?_
                    refine WL_nil ?_
                    exact Fin1_val (Below.refl _ _) rfl rfl ⟨rfl, rfl⟩
                  refine Steps_cons ?_ ?_
                  · intro w7 hB7
                    refine DepsK_cons rfl rfl ?_
                    rintro _ _ ⟨rfl, rfl⟩
                    refine DepsK_nil ?_
                    refine WL_guard_skip rfl rfl (by simp) rfl ?_
                    refine WL_nil ?_
                    exact Fin1_val (Below.refl _ _) rfl rfl ⟨rfl, rfl⟩
                  refine Steps_cons ?_ ?_
                  · intro w7 hB7
                    refine DepsK_cons rfl rfl ?_
                    rintro _ _ ⟨rfl, rfl⟩
                    refine DepsK_cons rfl rfl ?_
                    rintro _ _ ⟨rfl, rfl⟩
                    refine DepsK_nil ?_
                    refine WL_guard_skip rfl rfl (by simp) rfl ?_
                    refine WL_nil ?_
                    exact Fin1_val (Below.refl _ _) rfl rfl ⟨rfl, rfl⟩
                  refine Steps_cons ?_ ?_
                  · intro w7 hB7
                    refine DepsK_cons rfl rfl ?_
                    rintro _ _ ⟨rfl, rfl⟩
                    refine DepsK_cons rfl rfl ?_
                    rintro _ _ ⟨rfl, rfl⟩
                    refine DepsK_cons rfl rfl ?_
                    rintro _ _ ⟨rfl, rfl⟩
                    refine DepsK_cons rfl rfl ?_
                    rintro _ _ ⟨rfl, rfl⟩
                    refine DepsK_nil ?_
                    refine WL_guard_skip rfl rfl (by simp) rfl ?_
                    refine WL_nil ?_
                    exact Fin1_val (Below.refl _ _) rfl rfl ⟨rfl, rfl⟩
                  refine Steps_cons ?_ ?_
                  · intro w7 hB7
                    refine DepsK_cons rfl rfl ?_
                    rintro _ _ ⟨rfl, rfl⟩
                    refine DepsK_nil ?_
                    refine WL_guard_skip rfl rfl (by simp) rfl ?_
                    refine WL_nil ?_
                    exact Fin1_val (Below.refl _ _) rfl rfl ⟨rfl, rfl⟩
                  refine Steps_cons ?_ ?_
                  · intro w7 hB7
                    refine DepsK_cons rfl rfl ?_
                    rintro _ _ ⟨rfl, rfl⟩
                    refine DepsK_cons rfl rfl ?_
                    rintro _ _ ⟨rfl, rfl⟩
                    refine DepsK_nil ?_
                    refine WL_guard_skip rfl rfl (by simp) rfl ?_
                    refine WL_nil ?_
                    exact Fin1_val (Below.refl _ _) rfl rfl ⟨rfl, rfl⟩
                  exact Steps_nil
                · intro w8 hB8
                  refine AllK_cons rfl ?_
                  rintro _ _ ⟨rfl, rfl⟩
                  refine AllK_cons rfl ?_
                  rintro _ _ ⟨rfl, rfl⟩
                  refine AllK_cons rfl ?_
                  rintro _ _ ⟨rfl, rfl⟩
                  refine AllK_cons rfl ?_
                  rintro _ _ ⟨rfl, rfl⟩
                  refine AllK_cons rfl ?_
                  rintro _ _ ⟨rfl, rfl⟩
                  refine AllK_cons rfl ?_
                  rintro _ _ ⟨rfl, rfl⟩
                  refine AllK_cons rfl ?_
                  rintro _ _ ⟨rfl, rfl⟩
                  refine AllK_cons rfl ?_
                  rintro _ _ ⟨rfl, rfl⟩
                  refine AllK_cons rfl ?_
                  rintro _ _ ⟨rfl, rfl⟩
                  refine AllK_cons rfl ?_
                  rintro _ _ ⟨rfl, rfl⟩
                  refine AllK_cons rfl ?_
                  rintro _ _ ⟨rfl, rfl⟩
                  refine AllK_cons rfl ?_
                  rintro _ _ ⟨rfl, rfl⟩
                  refine AllK_cons rfl ?_
                  rintro _ _ ⟨rfl, rfl⟩
                  refine AllK_cons rfl ?_
                  rintro _ _ ⟨rfl, rfl⟩
                  refine AllK_cons rfl ?_
                  rintro _ _ ⟨rfl, rfl⟩
                  refine AllK_cons rfl ?_
                  rintro _ _ ⟨rfl, rfl⟩
                  refine AllK_cons rfl ?_
                  rintro _ _ ⟨rfl, rfl⟩
                  refine AllK_cons rfl ?_
                  rintro _ _ ⟨rfl, rfl⟩
                  refine AllK_cons rfl ?_
                  rintro _ _ ⟨rfl, rfl⟩
                  refine AllK_cons rfl ?_
                  rintro _ _ ⟨rfl, rfl⟩
                  refine AllK_cons rfl ?_
                  rintro _ _ ⟨rfl, rfl⟩
                  refine AllK_cons rfl ?_
                  rintro _ _ ⟨rfl, rfl⟩
                  refine AllK_cons rfl ?_
                  rintro _ _ ⟨rfl, rfl⟩
                  refine AllK_cons rfl ?_
                  rintro _ _ ⟨rfl, rfl⟩
                  refine AllK_nil ?_
                  intro hn1 hb1
                  have hC6 := hC4.grow hB8
                  refine WL_guard_skip rfl rfl (by simp) rfl ?_
                  refine WL_pick_t rfl rfl rfl ?_
                  refine WL_nil ?_
                  have hq4 := Option.some.inj hr4
                  subst hq4
                  refine nrm_sub (l' := [(0, u1), (3, (ptr b1 0)), (15, u1), (16, (.int .i64 (List.length a1 : Int))), (17, (.int .i64 x3)), (47, (.bool true))]) ⟨rfl, rfl, rfl, rfl, rfl, rfl, trivial⟩ ?_
                  exact ⟨true, rfl, rfl, (Keep.of hB8).below, hC6⟩
              · replace hr4 := ite_f hr4 hc4
                rcases btf (decide (0 < x3)) with hc5 | hc5
                · replace hr4 := ite_t hr4 hc5
                  obtain ⟨x7, hx2, hr4⟩ := bind_some hr4
                  rcases btf (decide (x4 < x7)) with hc6 | hc6
                  · replace hr4 := ite_t hr4 hc6
                    refine W.sub (l' := [(0, u1), (3, (ptr b1 0)), (5, (.int .i64 x3)), (6, (.int .i64 x4)), (15, u1), (16, (.int .i64 (List.length a1 : Int))), (17, (.int .i64 x3)), (18, (.bool (decide (x3 < (List.length a1 : Int))))), (19, (.int .i64 x3)), (20, (ptr b2 o1)), (21, (.int .i64 x4))]) ?_ ⟨rfl, rfl, rfl, rfl, rfl, rfl, rfl, rfl, rfl, rfl, rfl, trivial⟩
                    refine W_any 24 [PV.val (.int .i64 x4), PV.val (.bool x6), PV.val (.bool (!x6)), PV.val (.bool false), PV.val (.int .i64 x3), PV.val (.bool (decide (0 < x3))), PV.val (.bool true), PV.val (.int .i64 x4), PV.val u1, PV.val (.int .i64 x3), PV.val (.int .i64 (w64 (x3 - 1))), PV.at [] w0 x7, PV.val (.int .i64 x7), PV.val (.bool (decide (x4 < x7))), PV.val (.bool (decide (x4 < x7))), PV.val (.bool (decide (x4 < x7))), PV.val (.bool true), PV.val undef, PV.val undef, PV.val undef, PV.val undef, PV.val undef, PV.val undef, PV.val undef] [[], [0], [1], [2], [3], [3, 4], [3, 5], [6], [6], [6], [6, 9], [6, 8, 10], [6, 11], [6, 7, 12], [3, 6, 13], [3, 14], [15], [16], [16], [16], [16, 19], [16, 17, 18, 20], [16], [16, 22]] hmix (by kernel_rfl) rfl ?_ ?_
                    · refine Steps_cons ?_ ?_
                      · intro w9 hB9
                        refine DepsK_nil ?_
                        refine WL_move rfl rfl ?_
                        refine WL_nil ?_
                        exact Fin1_val (Below.refl _ _) rfl rfl ⟨rfl, rfl⟩
                      refine Steps_cons ?_ ?_
                      · intro w9 hB9
                        refine DepsK_cons rfl rfl ?_
                        rintro _ _ ⟨rfl, rfl⟩
                        refine DepsK_nil ?_
                        refine WL_call Try.call85 rfl rfl (c_M_isTime x4 x6 hr5) ?_
                        intro _ w6 hv2
                        obtain ⟨rfl, hB6⟩ := res_bool hv2
                        refine WL_nil ?_
                        exact Fin1_val hB6 rfl rfl ⟨rfl, rfl⟩
                      refine Steps_cons ?_ ?_
                      · intro w9 hB9
                        refine DepsK_cons rfl rfl ?_
                        rintro _ _ ⟨rfl, rfl⟩
                        refine DepsK_nil ?_
                        refine WL_not rfl rfl ?_
                        refine WL_nil ?_
                        exact Fin1_val (Below.refl _ _) rfl rfl ⟨rfl, rfl⟩
                      refine Steps_cons ?_ ?_
                      · intro w9 hB9
                        refine DepsK_cons rfl rfl ?_
                        rintro _ _ ⟨rfl, rfl⟩
                        refine DepsK_nil ?_
                        refine WL_move rfl rfl ?_
                        refine WL_known hc4 ?_
                        refine WL_nil ?_
                        exact Fin1_val (Below.refl _ _) rfl rfl ⟨rfl, rfl⟩
                      refine Steps_cons ?_ ?_
                      · intro w9 hB9
                        refine DepsK_cons rfl rfl ?_
                        rintro _ _ ⟨rfl, rfl⟩
                        refine DepsK_nil ?_
                        refine WL_guard rfl rfl ?_
                        refine WL_move rfl rfl ?_
                        refine WL_nil ?_
                        exact Fin1_val (Below.refl _ _) rfl rfl ⟨rfl, rfl⟩
                      refine Steps_cons ?_ ?_
                      · intro w9 hB9
                        refine DepsK_cons rfl rfl ?_
                        rintro _ _ ⟨rfl, rfl⟩
                        refine DepsK_cons rfl rfl ?_
                        rintro _ _ ⟨rfl, rfl⟩
                        refine DepsK_nil ?_
                        refine WL_guard rfl rfl ?_
                        refine WL_gtr rfl rfl rfl ?_
                        refine WL_nil ?_
                        exact Fin1_val (Below.refl _ _) rfl rfl ⟨rfl, rfl⟩
                      refine Steps_cons ?_ ?_
                      · intro w9 hB9
                        refine DepsK_cons rfl rfl ?_
                        rintro _ _ ⟨rfl, rfl⟩
                        refine DepsK_cons rfl rfl ?_
                        rintro _ _ ⟨rfl, rfl⟩
                        refine DepsK_nil ?_
                        refine WL_guard rfl rfl ?_
                        refine WL_move rfl rfl ?_
                        refine WL_known hc5 ?_
                        refine WL_nil ?_
                        exact Fin1_val (Below.refl _ _) rfl rfl ⟨rfl, rfl⟩
                      refine Steps_cons ?_ ?_
                      · intro w9 hB9
                        refine DepsK_cons rfl rfl ?_
                        rintro _ _ ⟨rfl, rfl⟩
                        refine DepsK_nil ?_
                        refine WL_guard rfl rfl ?_
                        refine WL_move rfl rfl ?_
                        refine WL_nil ?_
                        exact Fin1_val (Below.refl _ _) rfl rfl ⟨rfl, rfl⟩
                      refine Steps_cons ?_ ?_
                      · intro w9 hB9
                        refine DepsK_cons rfl rfl ?_
                        rintro _ _ ⟨rfl, rfl⟩
                        refine DepsK_nil ?_
                        refine WL_guard rfl rfl ?_
                        refine WL_move rfl rfl ?_
                        refine WL_nil ?_
                        exact Fin1_val (Below.refl _ _) rfl rfl ⟨rfl, rfl⟩
                      refine Steps_cons ?_ ?_
                      · intro w9 hB9
                        refine DepsK_cons rfl rfl ?_
                        rintro _ _ ⟨rfl, rfl⟩
                        refine DepsK_nil ?_
                        refine WL_guard rfl rfl ?_
                        refine WL_move rfl rfl ?_
                        refine WL_nil ?_
                        exact Fin1_val (Below.refl _ _) rfl rfl ⟨rfl, rfl⟩
                      refine Steps_cons ?_ ?_
                      · intro w9 hB9
                        refine DepsK_cons rfl rfl ?_
                        rintro _ _ ⟨rfl, rfl⟩
                        refine DepsK_cons rfl rfl ?_
                        rintro _ _ ⟨rfl, rfl⟩
                        refine DepsK_nil ?_
                        refine WL_guard rfl rfl ?_
                        refine WL_sub rfl rfl rfl ?_
                        refine WL_nil ?_
                        exact Fin1_val (Below.refl _ _) rfl rfl ⟨rfl, rfl⟩
                      refine Steps_cons ?_ ?_
                      · intro w9 hB9
                        refine DepsK_cons rfl rfl ?_
                        rintro _ _ ⟨rfl, rfl⟩
                        refine DepsK_cons rfl rfl ?_
                        rintro _ _ ⟨rfl, rfl⟩
                        refine DepsK_cons rfl rfl ?_
                        rintro _ _ ⟨rfl, rfl⟩
                        refine DepsK_nil ?_
                        refine WL_guard rfl rfl ?_
                        refine WL_index Try.underlying27 ty3 g1 hx2 rfl rfl rfl (fun b3 o2 h3 => ?_)
                        refine WL_nil ?_
                        exact Fin1_val (Below.refl _ _) rfl rfl ⟨rfl, _, _, rfl, h3⟩
                      refine Steps_cons ?_ ?_
                      · intro w9 hB9
                        refine DepsK_cons rfl rfl ?_
                        rintro _ _ ⟨rfl, rfl⟩
                        refine DepsK_cons rfl rfl ?_
                        rintro _ _ ⟨rfl, b3, o2, rfl, h3⟩
                        refine DepsK_nil ?_
                        refine WL_guard rfl rfl ?_
                        refine WL_load ty3 h3 (hC4.keep.then hB9) rfl rfl (fun v20 h4 => ?_)
                        obtain rfl := ro_int h4
                        refine WL_nil ?_
                        exact Fin1_val (Below.refl _ _) rfl rfl ⟨rfl, rfl⟩
                      refine Steps_cons ?_ ?_
                      · intro w9 hB9
                        refine DepsK_cons rfl rfl ?_
                        rintro _ _ ⟨rfl, rfl⟩
                        refine DepsK_cons rfl rfl ?_
                        rintro _ _ ⟨rfl, rfl⟩
                        refine DepsK_cons rfl rfl ?_
                        rintro _ _ ⟨rfl, rfl⟩
                        refine DepsK_nil ?_
                        refine WL_guard rfl rfl ?_
                        refine WL_lss rfl rfl rfl ?_
                        refine WL_nil ?_
                        exact Fin1_val (Below.refl _ _) rfl rfl ⟨rfl, rfl⟩
                      refine Steps_cons ?_ ?_
                      · intro w9 hB9
                        refine DepsK_cons rfl rfl ?_
                        rintro _ _ ⟨rfl, rfl⟩
                        refine DepsK_cons rfl rfl ?_
                        rintro _ _ ⟨rfl, rfl⟩
                        refine DepsK_cons rfl rfl ?_
                        rintro _ _ ⟨rfl, rfl⟩
                        refine DepsK_nil ?_
                        refine WL_guard rfl rfl ?_
                        refine WL_pick_t rfl rfl rfl ?_
                        refine WL_nil ?_
                        exact Fin1_val (Below.refl _ _) rfl rfl ⟨rfl, rfl⟩
                      refine Steps_cons ?_ ?_
                      · intro w9 hB9
                        refine DepsK_cons rfl rfl ?_
                        rintro _ _ ⟨rfl, rfl⟩
                        refine DepsK_cons rfl rfl ?_
                        rintro _ _ ⟨rfl, rfl⟩
                        refine DepsK_nil ?_
                        refine WL_pick_f rfl rfl rfl ?_
                        refine WL_nil ?_
                        exact Fin1_val (Below.refl _ _) rfl rfl ⟨rfl, rfl⟩
                      refine Steps_cons ?_ ?_
                      · intro w9 hB9
                        refine DepsK_cons rfl rfl ?_
                        rintro _ _ ⟨rfl, rfl⟩
                        refine DepsK_nil ?_
                        refine WL_move rfl rfl ?_
                        refine WL_known hc6 ?_
                        refine WL_nil ?_
                        exact Fin1_val (Below.refl _ _) rfl rfl ⟨rfl, rfl⟩
                      refine Steps_cons ?_ ?_
                      · intro w9 hB9
                        refine DepsK_cons rfl rfl ?_
                        rintro _ _ ⟨rfl, rfl⟩
                        refine DepsK_nil ?_
                        refine WL_guard_skip rfl rfl (by simp) rfl ?_
                        refine WL_nil ?_
                        exact Fin1_val (Below.refl _ _) rfl rfl ⟨rfl, rfl⟩
                      refine Steps_cons ?_ ?_
                      · intro w9 hB9
                        refine DepsK_cons rfl rfl ?_
                        rintro _ _ ⟨rfl, rfl⟩
                        refine DepsK_nil ?_
                        refine WL_guard_skip rfl rfl (by simp) rfl ?_
                        refine WL_nil ?_
                        exact Fin1_val (Below.refl _ _) rfl rfl ⟨rfl, rfl⟩
                      refine Steps_cons ?_ ?_
                      · intro w9 hB9
                        refine DepsK_cons rfl rfl ?_
                        rintro _ _ ⟨rfl, rfl⟩
                        refine DepsK_nil ?_
                        refine WL_guard_skip rfl rfl (by simp) rfl ?_
                        refine WL_nil ?_
                        exact Fin1_val (Below.refl _ _) rfl rfl ⟨rfl, rfl⟩
                      refine Steps_cons ?_ ?_
                      · intro w9 hB9
                        refine DepsK_cons rfl rfl ?_
                        rintro _ _ ⟨rfl, rfl⟩
                        refine DepsK_cons rfl rfl ?_
                        rintro _ _ ⟨rfl, rfl⟩
                        refine DepsK_nil ?_
                        refine WL_guard_skip rfl rfl (by simp) rfl ?_
                        refine WL_nil ?_
                        exact Fin1_val (Below.refl _ _) rfl rfl ⟨rfl, rfl⟩
                      refine Steps_cons ?_ ?_
                      · intro w9 hB9
                        refine DepsK_cons rfl rfl ?_
                        rintro _ _ ⟨rfl, rfl⟩
                        refine DepsK_cons rfl rfl ?_
                        rintro _ _ ⟨rfl, rfl⟩
                        refine DepsK_cons rfl rfl ?_
                        rintro _ _ ⟨rfl, rfl⟩
                        refine DepsK_cons rfl rfl ?_
                        rintro _ _ ⟨rfl, rfl⟩
                        refine DepsK_nil ?_
                        refine WL_guard_skip rfl rfl (by simp) rfl ?_
                        refine WL_nil ?_
                        exact Fin1_val (Below.refl _ _) rfl rfl ⟨rfl, rfl⟩
                      refine Steps_cons ?_ ?_
                      · intro w9 hB9
                        refine DepsK_cons rfl rfl ?_
                        rintro _ _ ⟨rfl, rfl⟩
                        refine DepsK_nil ?_
                        refine WL_guard_skip rfl rfl (by simp) rfl ?_
                        refine WL_nil ?_
                        exact Fin1_val (Below.refl _ _) rfl rfl ⟨rfl, rfl⟩
                      refine Steps_cons ?_ ?_
                      · intro w9 hB9
                        refine DepsK_cons rfl rfl ?_
                        rintro _ _ ⟨rfl, rfl⟩
                        refine DepsK_cons rfl rfl ?_
                        rintro _ _ ⟨rfl, rfl⟩
                        refine DepsK_nil ?_
                        refine WL_guard_skip rfl rfl (by simp) rfl ?_
                        refine WL_nil ?_
                        exact Fin1_val (Below.refl _ _) rfl rfl ⟨rfl, rfl⟩
                      exact Steps_nil
                    · intro w10 hB10
                      refine AllK_cons rfl ?_
                      rintro _ _ ⟨rfl, rfl⟩
                      refine AllK_cons rfl ?_
                      rintro _ _ ⟨rfl, rfl⟩
                      refine AllK_cons rfl ?_
                      rintro _ _ ⟨rfl, rfl⟩
                      refine AllK_cons rfl ?_
                      rintro _ _ ⟨rfl, rfl⟩
                      refine AllK_cons rfl ?_
                      rintro _ _ ⟨rfl, rfl⟩
                      refine AllK_cons rfl ?_
                      rintro _ _ ⟨rfl, rfl⟩
                      refine AllK_cons rfl ?_
                      rintro _ _ ⟨rfl, rfl⟩
                      refine AllK_cons rfl ?_
                      rintro _ _ ⟨rfl, rfl⟩
                      refine AllK_cons rfl ?_
                      rintro _ _ ⟨rfl, rfl⟩
                      refine AllK_cons rfl ?_
                      rintro _ _ ⟨rfl, rfl⟩
                      refine AllK_cons rfl ?_
                      rintro _ _ ⟨rfl, rfl⟩
                      refine AllK_cons rfl ?_
                      rintro _ _ ⟨rfl, b3, o2, rfl, h3⟩
                      refine AllK_cons rfl ?_
                      rintro _ _ ⟨rfl, rfl⟩
                      refine AllK_cons rfl ?_
                      rintro _ _ ⟨rfl, rfl⟩
                      refine AllK_cons rfl ?_
                      rintro _ _ ⟨rfl, rfl⟩
                      refine AllK_cons rfl ?_
                      rintro _ _ ⟨rfl, rfl⟩
                      refine AllK_cons rfl ?_
                      rintro _ _ ⟨rfl, rfl⟩
                      refine AllK_cons rfl ?_
                      rintro _ _ ⟨rfl, rfl⟩
                      refine AllK_cons rfl ?_
                      rintro _ _ ⟨rfl, rfl⟩
                      refine AllK_cons rfl ?_
                      rintro _ _ ⟨rfl, rfl⟩
                      refine AllK_cons rfl ?_
                      rintro _ _ ⟨rfl, rfl⟩
                      refine AllK_cons rfl ?_
                      rintro _ _ ⟨rfl, rfl⟩
                      refine AllK_cons rfl ?_
                      rintro _ _ ⟨rfl, rfl⟩
                      refine AllK_cons rfl ?_
                      rintro _ _ ⟨rfl, rfl⟩
                      refine AllK_nil ?_
                      intro hn2 hb2
                      have hC7 := hC4.grow hB10
                      refine WL_guard_skip rfl rfl (by simp) rfl ?_
                      refine WL_pick_t rfl rfl rfl ?_
                      refine WL_nil ?_
                      have hq5 := Option.some.inj hr4
                      subst hq5
                      refine nrm_sub (l' := [(0, u1), (3, (ptr b1 0)), (15, u1), (16, (.int .i64 (List.length a1 : Int))), (17, (.int .i64 x3)), (47, (.bool true))]) ⟨rfl, rfl, rfl, rfl, rfl, rfl, trivial⟩ ?_
                      exact ⟨true, rfl, rfl, (Keep.of hB10).below, hC7⟩
                  · replace hr4 := ite_f hr4 hc6
                    obtain ⟨x8, hr6, hr4⟩ := bind_some hr4
                    refine W.sub (l' := [(0, u1), (3, (ptr b1 0)), (5, (.int .i64 x3)), (6, (.int .i64 x4)), (15, u1), (16, (.int .i64 (List.length a1 : Int))), (17, (.int .i64 x3)), (18, (.bool (decide (x3 < (List.length a1 : Int))))), (19, (.int .i64 x3)), (20, (ptr b2 o1)), (21, (.int .i64 x4))]) ?_ ⟨rfl, rfl, rfl, rfl, rfl, rfl, rfl, rfl, rfl, rfl, rfl, trivial⟩
                    refine W_any 24 [PV.val (.int .i64 x4), PV.val (.bool x6), PV.val (.bool (!x6)), PV.val (.bool false), PV.val (.int .i64 x3), PV.val (.bool (decide (0 < x3))), PV.val (.bool true), PV.val (.int .i64 x4), PV.val u1, PV.val (.int .i64 x3), PV.val (.int .i64 (w64 (x3 - 1))), PV.at [] w0 x7, PV.val (.int .i64 x7), PV.val (.bool (decide (x4 < x7))), PV.val (.bool (decide (x4 < x7))), PV.val (.bool (decide (x4 < x7))), PV.val (.bool false), PV.val u1, PV.val (.int .i64 x4), PV.val (ptr b1 0), PV.val (.int .i64 a2.1), PV.val (.int .i64 x8), PV.val (ptr b1 1), PV.val (.int .i64 a2.2)] [[], [0], [1], [2], [3], [3, 4], [3, 5], [6], [6], [6], [6, 9], [6, 8, 10], [6, 11], [6, 7, 12], [3, 6, 13], [3, 14], [15], [16], [16], [16], [16, 19], [16, 17, 18, 20], [16], [16, 22]] hmix (by kernel_rfl) rfl ?_ ?_
                    · refine Steps_cons ?_ ?_
                      · intro w12 hB12
                        refine DepsK_nil ?_
                        refine WL_move rfl rfl ?_
                        refine WL_nil ?_
                        exact Fin1_val (Below.refl _ _) rfl rfl ⟨rfl, rfl⟩
                      refine Steps_cons ?_ ?_
                      · intro w12 hB12
                        refine DepsK_cons rfl rfl ?_
                        rintro _ _ ⟨rfl, rfl⟩
                        refine DepsK_nil ?_
                        refine WL_call Try.call85 rfl rfl (c_M_isTime x4 x6 hr5) ?_
                        intro _ w6 hv2
                        obtain ⟨rfl, hB6⟩ := res_bool hv2
                        refine WL_nil ?_
                        exact Fin1_val hB6 rfl rfl ⟨rfl, rfl⟩
                      refine Steps_cons ?_ ?_
                      · intro w12 hB12
                        refine DepsK_cons rfl rfl ?_
                        rintro _ _ ⟨rfl, rfl⟩
                        refine DepsK_nil ?_
                        refine WL_not rfl rfl ?_
                        refine WL_nil ?_
                        exact Fin1_val (Below.refl _ _) rfl rfl ⟨rfl, rfl⟩
                      refine Steps_cons ?_ ?_
                      · intro w12 hB12
                        refine DepsK_cons rfl rfl ?_
                        rintro _ _ ⟨rfl, rfl⟩
                        refine DepsK_nil ?_
                        refine WL_move rfl rfl ?_
                        refine WL_known hc4 ?_
                        refine WL_nil ?_
                        exact Fin1_val (Below.refl _ _) rfl rfl ⟨rfl, rfl⟩
                      refine Steps_cons ?_ ?_
                      · intro w12 hB12
                        refine DepsK_cons rfl rfl ?_
                        rintro _ _ ⟨rfl, rfl⟩
                        refine DepsK_nil ?_
                        refine WL_guard rfl rfl ?_
                        refine WL_move rfl rfl ?_
                        refine WL_nil ?_
                        exact Fin1_val (Below.refl _ _) rfl rfl ⟨rfl, rfl⟩
                      refine Steps_cons ?_ ?_
                      · intro w12 hB12
                        refine DepsK_cons rfl rfl ?_
                        rintro _ _ ⟨rfl, rfl⟩
                        refine DepsK_cons rfl rfl ?_
                        rintro _ _ ⟨rfl, rfl⟩
                        refine DepsK_nil ?_
                        refine WL_guard rfl rfl ?_
                        refine WL_gtr rfl rfl rfl ?_
                        refine WL_nil ?_
                        exact Fin1_val (Below.refl _ _) rfl rfl ⟨rfl, rfl⟩
                      refine Steps_cons ?_ ?_
                      · intro w12 hB12
                        refine DepsK_cons rfl rfl ?_
                        rintro _ _ ⟨rfl, rfl⟩
                        refine DepsK_cons rfl rfl ?_
                        rintro _ _ ⟨rfl, rfl⟩
                        refine DepsK_nil ?_
                        refine WL_guard rfl rfl ?_
                        refine WL_move rfl rfl ?_
                        refine WL_known hc5 ?_
                        refine WL_nil ?_
                        exact Fin1_val (Below.refl _ _) rfl rfl ⟨rfl, rfl⟩
                      refine Steps_cons ?_ ?_
                      · intro w12 hB12
                        refine DepsK_cons rfl rfl ?_
                        rintro _ _ ⟨rfl, rfl⟩
                        refine DepsK_nil ?_
                        refine WL_guard rfl rfl ?_
                        refine WL_move rfl rfl ?_
                        refine WL_nil ?_
                        exact Fin1_val (Below.refl _ _) rfl rfl ⟨rfl, rfl⟩
                      refine Steps_cons ?_ ?_
                      · intro w12 hB12
                        refine DepsK_cons rfl rfl ?_
                        rintro _ _ ⟨rfl, rfl⟩
                        refine DepsK_nil ?_
                        refine WL_guard rfl rfl ?_
                        refine WL_move rfl rfl ?_
                        refine WL_nil ?_
                        exact Fin1_val (Below.refl _ _) rfl rfl ⟨rfl, rfl⟩
                      refine Steps_cons ?_ ?_
                      · intro w12 hB12
                        refine DepsK_cons rfl rfl ?_
                        rintro _ _ ⟨rfl, rfl⟩
                        refine DepsK_nil ?_
                        refine WL_guard rfl rfl ?_
                        refine WL_move rfl rfl ?_
                        refine WL_nil ?_
                        exact Fin1_val (Below.refl _ _) rfl rfl ⟨rfl, rfl⟩
                      refine Steps_cons ?_ ?_
                      · intro w12 hB12
                        refine DepsK_cons rfl rfl ?_
                        rintro _ _ ⟨rfl, rfl⟩
                        refine DepsK_cons rfl rfl ?_
                        rintro _ _ ⟨rfl, rfl⟩
                        refine DepsK_nil ?_
                        refine WL_guard rfl rfl ?_
                        refine WL_sub rfl rfl rfl ?_
                        refine WL_nil ?_
                        exact Fin1_val (Below.refl _ _) rfl rfl ⟨rfl, rfl⟩
                      refine Steps_cons ?_ ?_
                      · intro w12 hB12
                        refine DepsK_cons rfl rfl ?_
                        rintro _ _ ⟨rfl, rfl⟩
                        refine DepsK_cons rfl rfl ?_
                        rintro _ _ ⟨rfl, rfl⟩
                        refine DepsK_cons rfl rfl ?_
                        rintro _ _ ⟨rfl, rfl⟩
                        refine DepsK_nil ?_
                        refine WL_guard rfl rfl ?_
                        refine WL_index Try.underlying27 ty3 g1 hx2 rfl rfl rfl (fun b3 o2 h3 => ?_)
                        refine WL_nil ?_
                        exact Fin1_val (Below.refl _ _) rfl rfl ⟨rfl, _, _, rfl, h3⟩
                      refine Steps_cons ?_ ?_
                      · intro w12 hB12
                        refine DepsK_cons rfl rfl ?_
                        rintro _ _ ⟨rfl, rfl⟩
                        refine DepsK_cons rfl rfl ?_
                        rintro _ _ ⟨rfl, b3, o2, rfl, h3⟩
                        refine DepsK_nil ?_
                        refine WL_guard rfl rfl ?_
                        refine WL_load ty3 h3 (hC4.keep.then hB12) rfl rfl (fun v20 h4 => ?_)
                        obtain rfl := ro_int h4
                        refine WL_nil ?_
                        exact Fin1_val (Below.refl _ _) rfl rfl ⟨rfl, rfl⟩
                      refine Steps_cons ?_ ?_
                      · intro w12 hB12
                        refine DepsK_cons rfl rfl ?_
                        rintro _ _ ⟨rfl, rfl⟩
                        refine DepsK_cons rfl rfl ?_
                        rintro _ _ ⟨rfl, rfl⟩
                        refine DepsK_cons rfl rfl ?_
                        rintro _ _ ⟨rfl, rfl⟩
                        refine DepsK_nil ?_
                        refine WL_guard rfl rfl ?_
                        refine WL_lss rfl rfl rfl ?_
                        refine WL_nil ?_
                        exact Fin1_val (Below.refl _ _) rfl rfl ⟨rfl, rfl⟩
                      refine Steps_cons ?_ ?_
                      · intro w12 hB12
                        refine DepsK_cons rfl rfl ?_
                        rintro _ _ ⟨rfl, rfl⟩
                        refine DepsK_cons rfl rfl ?_
                        rintro _ _ ⟨rfl, rfl⟩
                        refine DepsK_cons rfl rfl ?_
                        rintro _ _ ⟨rfl, rfl⟩
                        refine DepsK_nil ?_
                        refine WL_guard rfl rfl ?_
                        refine WL_pick_t rfl rfl rfl ?_
                        refine WL_nil ?_
                        exact Fin1_val (Below.refl _ _) rfl rfl ⟨rfl, rfl⟩
                      refine Steps_cons ?_ ?_
                      · intro w12 hB12
                        refine DepsK_cons rfl rfl ?_
                        rintro _ _ ⟨rfl, rfl⟩
                        refine DepsK_cons rfl rfl ?_
                        rintro _ _ ⟨rfl, rfl⟩
                        refine DepsK_nil ?_
                        refine WL_pick_f rfl rfl rfl ?_
                        refine WL_nil ?_
                        exact Fin1_val (Below.refl _ _) rfl rfl ⟨rfl, rfl⟩
                      refine Steps_cons ?_ ?_
                      · intro w12 hB12
                        refine DepsK_cons rfl rfl ?_
                        rintro _ _ ⟨rfl, rfl⟩
                        refine DepsK_nil ?_
                        refine WL_move rfl rfl ?_
                        refine WL_known hc6 ?_
                        refine WL_nil ?_
                        exact Fin1_val (Below.refl _ _) rfl rfl ⟨rfl, rfl⟩
                      refine Steps_cons ?_ ?_
                      · intro w12 hB12
                        refine DepsK_cons rfl rfl ?_
                        rintro _ _ ⟨rfl, rfl⟩
                        refine DepsK_nil ?_
                        refine WL_guard rfl rfl ?_
                        refine WL_move rfl rfl ?_
                        refine WL_nil ?_
                        exact Fin1_val (Below.refl _ _) rfl rfl ⟨rfl, rfl⟩
                      refine Steps_cons ?_ ?_
                      · intro w12 hB12
                        refine DepsK_cons rfl rfl ?_
                        rintro _ _ ⟨rfl, rfl⟩
                        refine DepsK_nil ?_
                        refine WL_guard rfl rfl ?_
                        refine WL_move rfl rfl ?_
                        refine WL_nil ?_
                        exact Fin1_val (Below.refl _ _) rfl rfl ⟨rfl, rfl⟩
                      refine Steps_cons ?_ ?_
                      · intro w12 hB12
                        refine DepsK_cons rfl rfl ?_
                        rintro _ _ ⟨rfl, rfl⟩
                        refine DepsK_nil ?_
                        refine WL_guard rfl rfl ?_
                        refine WL_field Try.underlying41 rfl rfl (fun w => ⟨_, Try.sizeOf3 w⟩) rfl rfl ?_
                        refine WL_nil ?_
                        exact Fin1_val (Below.refl _ _) rfl rfl ⟨rfl, rfl⟩
                      refine Steps_cons ?_ ?_
                      · intro w12 hB12
                        refine DepsK_cons rfl rfl ?_
                        rintro _ _ ⟨rfl, rfl⟩
                        refine DepsK_cons rfl rfl ?_
                        rintro _ _ ⟨rfl, rfl⟩
                        refine DepsK_nil ?_
                        refine WL_guard rfl rfl ?_
                        refine WL_load_box (hC4.grow hB12) 0 rfl rfl Try.isAgg3 rfl rfl ?_
                        refine WL_nil ?_
                        exact Fin1_val (Below.refl _ _) rfl rfl ⟨rfl, rfl⟩
                      refine Steps_cons ?_ ?_
                      · intro w12 hB12
                        refine DepsK_cons rfl rfl ?_
                        rintro _ _ ⟨rfl, rfl⟩
                        refine DepsK_cons rfl rfl ?_
                        rintro _ _ ⟨rfl, rfl⟩
                        refine DepsK_cons rfl rfl ?_
                        rintro _ _ ⟨rfl, rfl⟩
                        refine DepsK_cons rfl rfl ?_
                        rintro _ _ ⟨rfl, rfl⟩
                        refine DepsK_nil ?_
                        refine WL_guard rfl rfl ?_
                        refine WL_call Try.call62 rfl rfl (c_M_CallsIn a1 u1 (g1.now (hC4.keep.then hB12)) x4 a2.1 x8 hr6) ?_
                        intro _ w11 hv3
                        obtain ⟨rfl, hB11⟩ := res_int hv3
                        refine WL_nil ?_
                        exact Fin1_val hB11 rfl rfl ⟨rfl, rfl⟩
                      refine Steps_cons ?_ ?_
                      · intro w12 hB12
                        refine DepsK_cons rfl rfl ?_
                        rintro _ _ ⟨rfl, rfl⟩
                        refine DepsK_nil ?_
                        refine WL_guard rfl rfl ?_
                        refine WL_field Try.underlying41 rfl rfl (fun w => ⟨_, Try.sizeOf3 w⟩) rfl rfl ?_
                        refine WL_nil ?_
                        exact Fin1_val (Below.refl _ _) rfl rfl ⟨rfl, rfl⟩
                      refine Steps_cons ?_ ?_
                      · intro w12 hB12
                        refine DepsK_cons rfl rfl ?_
                        rintro _ _ ⟨rfl, rfl⟩
                        refine DepsK_cons rfl rfl ?_
                        rintro _ _ ⟨rfl, rfl⟩
                        refine DepsK_nil ?_
                        refine WL_guard rfl rfl ?_
                        refine WL_load_box (hC4.grow hB12) 0 rfl rfl Try.isAgg3 rfl rfl ?_
                        refine WL_nil ?_
                        exact Fin1_val (Below.refl _ _) rfl rfl ⟨rfl, rfl⟩
                      exact Steps_nil
                    · intro w13 hB13
                      refine AllK_cons rfl ?_
                      rintro _ _ ⟨rfl, rfl⟩
                      refine AllK_cons rfl ?_
                      rintro _ _ ⟨rfl, rfl⟩
                      refine AllK_cons rfl ?_
                      rintro _ _ ⟨rfl, rfl⟩
                      refine AllK_cons rfl ?_
                      rintro _ _ ⟨rfl, rfl⟩
                      refine AllK_cons rfl ?_
                      rintro _ _ ⟨rfl, rfl⟩
                      refine AllK_cons rfl ?_
                      rintro _ _ ⟨rfl, rfl⟩
                      refine AllK_cons rfl ?_
                      rintro _ _ ⟨rfl, rfl⟩
                      refine AllK_cons rfl ?_
                      rintro _ _ ⟨rfl, rfl⟩
                      refine AllK_cons rfl ?_
                      rintro _ _ ⟨rfl, rfl⟩
                      refine AllK_cons rfl ?_
                      rintro _ _ ⟨rfl, rfl⟩
                      refine AllK_cons rfl ?_
                      rintro _ _ ⟨rfl, rfl⟩
                      refine AllK_cons rfl ?_
                      rintro _ _ ⟨rfl, b3, o2, rfl, h3⟩
                      refine AllK_cons rfl ?_
                      rintro _ _ ⟨rfl, rfl⟩
                      refine AllK_cons rfl ?_
                      rintro _ _ ⟨rfl, rfl⟩
                      refine AllK_cons rfl ?_
                      rintro _ _ ⟨rfl, rfl⟩
                      refine AllK_cons rfl ?_
                      rintro _ _ ⟨rfl, rfl⟩
                      refine AllK_cons rfl ?_
                      rintro _ _ ⟨rfl, rfl⟩
                      refine AllK_cons rfl ?_
                      rintro _ _ ⟨rfl, rfl⟩
                      refine AllK_cons rfl ?_
                      rintro _ _ ⟨rfl, rfl⟩
                      refine AllK_cons rfl ?_
                      rintro _ _ ⟨rfl, rfl⟩
                      refine AllK_cons rfl ?_
                      rintro _ _ ⟨rfl, rfl⟩
                      refine AllK_cons rfl ?_
                      rintro _ _ ⟨rfl, rfl⟩
                      refine AllK_cons rfl ?_
                      rintro _ _ ⟨rfl, rfl⟩
                      refine AllK_cons rfl ?_
                      rintro _ _ ⟨rfl, rfl⟩
                      refine AllK_nil ?_
                      intro hn3 hb3
                      have hC8 := hC4.grow hB13
                      refine WL_guard rfl rfl ?_
                      refine WL_gtr rfl rfl rfl ?_
                      refine WL_pick_f rfl rfl rfl ?_
                      refine WL_nil ?_
                      have hq6 := Option.some.inj hr4
                      subst hq6
                      refine nrm_sub (l' := [(0, u1), (3, (ptr b1 0)), (15, u1), (16, (.int .i64 (List.length a1 : Int))), (17, (.int .i64 x3)), (47, (.bool (decide (a2.2 < x8))))]) ⟨rfl, rfl, rfl, rfl, rfl, rfl, trivial⟩ ?_
                      exact ⟨(decide (a2.2 < x8)), rfl, rfl, (Keep.of hB13).below, hC8⟩
                · replace hr4 := ite_f hr4 hc5
                  obtain ⟨x9, hr7, hr4⟩ := bind_some hr4
                  refine W.sub (l' := [(0, u1), (3, (ptr b1 0)), (5, (.int .i64 x3)), (6, (.int .i64 x4)), (15, u1), (16, (.int .i64 (List.length a1 : Int))), (17, (.int .i64 x3)), (18, (.bool (decide (x3 < (List.length a1 : Int))))), (19, (.int .i64 x3)), (20, (ptr b2 o1)), (21, (.int .i64 x4))]) ?_ ⟨rfl, rfl, rfl, rfl, rfl, rfl, rfl, rfl, rfl, rfl, rfl, trivial⟩
                  refine W_any 24 [PV.val (.int .i64 x4), PV.val (.bool x6), PV.val (.bool (!x6)), PV.val (.bool false), PV.val (.int .i64 x3), PV.val (.bool (decide (0 < x3))), PV.val (.bool false), PV.val undef, PV.val undef, PV.val undef, PV.val undef, PV.val undef, PV.val undef, PV.val undef, PV.val (.bool false), PV.val (.bool false), PV.val (.bool false), PV.val u1, PV.val (.int .i64 x4), PV.val (ptr b1 0), PV.val (.int .i64 a2.1), PV.val (.int .i64 x9), PV.val (ptr b1 1), PV.val (.int .i64 a2.2)] [[], [0], [1], [2], [3], [3, 4], [3, 5], [6], [6], [6], [6, 9], [6, 8, 10], [6, 11], [6, 7, 12], [3, 6, 13], [3, 14], [15], [16], [16], [16], [16, 19], [16, 17, 18, 20], [16], [16, 22]] hmix (by kernel_rfl) rfl ?_ ?_
                  · refine Steps_cons ?_ ?_
                    · intro w15 hB15
                      refine DepsK_nil ?_
                      refine WL_move rfl rfl ?_
                      refine WL_nil ?_
                      exact Fin1_val (Below.refl _ _) rfl rfl ⟨rfl, rfl⟩
                    refine Steps_cons ?_ ?_
                    · intro w15 hB15
                      refine DepsK_cons rfl rfl ?_
                      rintro _ _ ⟨rfl, rfl⟩
                      refine DepsK_nil ?_
                      refine WL_call Try.call85 rfl rfl (c_M_isTime x4 x6 hr5) ?_
                      intro _ w6 hv2
                      obtain ⟨rfl, hB6⟩ := res_bool hv2
                      refine WL_nil ?_
                      exact Fin1_val hB6 rfl rfl ⟨rfl, rfl⟩
                    refine Steps_cons ?_ ?_
                    · intro w15 hB15
                      refine DepsK_cons rfl rfl ?_
                      rintro _ _ ⟨rfl, rfl⟩
                      refine DepsK_nil ?_
                      refine WL_not rfl rfl ?_
                      refine WL_nil ?_
                      exact Fin1_val (Below.refl _ _) rfl rfl ⟨rfl, rfl⟩
                    refine Steps_cons ?_ ?_
                    · intro w15 hB15
                      refine DepsK_cons rfl rfl ?_
                      rintro _ _ ⟨rfl, rfl⟩
                      refine DepsK_nil ?_
                      refine WL_move rfl rfl ?_
                      refine WL_known hc4 ?_
                      refine WL_nil ?_
                      exact Fin1_val (Below.refl _ _) rfl rfl ⟨rfl, rfl⟩
                    refine Steps_cons ?_ ?_
                    · intro w15 hB15
                      refine DepsK_cons rfl rfl ?_
                      rintro _ _ ⟨rfl, rfl⟩
                      refine DepsK_nil ?_
                      refine WL_guard rfl rfl ?_
                      refine WL_move rfl rfl ?_
                      refine WL_nil ?_
                      exact Fin1_val (Below.refl _ _) rfl rfl ⟨rfl, rfl⟩
                    refine Steps_cons ?_ ?_
                    · intro w15 hB15
                      refine DepsK_cons rfl rfl ?_
                      rintro _ _ ⟨rfl, rfl⟩
                      refine DepsK_cons rfl rfl ?_
                      rintro _ _ ⟨rfl, rfl⟩
                      refine DepsK_nil ?_
                      refine WL_guard rfl rfl ?_
                      refine WL_gtr rfl rfl rfl ?_
                      refine WL_nil ?_
                      exact Fin1_val (Below.refl _ _) rfl rfl ⟨rfl, rfl⟩
                    refine Steps_cons ?_ ?_
                    · intro w15 hB15
                      refine DepsK_cons rfl rfl ?_
                      rintro _ _ ⟨rfl, rfl⟩
                      refine DepsK_cons rfl rfl ?_
                      rintro _ _ ⟨rfl, rfl⟩
                      refine DepsK_nil ?_
                      refine WL_guard rfl rfl ?_
                      refine WL_move rfl rfl ?_
                      refine WL_known hc5 ?_
                      refine WL_nil ?_
                      exact Fin1_val (Below.refl _ _) rfl rfl ⟨rfl, rfl⟩
                    refine Steps_cons ?_ ?_
                    · intro w15 hB15
                      refine DepsK_cons rfl rfl ?_
                      rintro _ _ ⟨rfl, rfl⟩
                      refine DepsK_nil ?_
                      refine WL_guard_skip rfl rfl (by simp) rfl ?_
                      refine WL_nil ?_
                      exact Fin1_val (Below.refl _ _) rfl rfl ⟨rfl, rfl⟩
                    refine Steps_cons ?_ ?_
                    · intro w15 hB15
                      refine DepsK_cons rfl rfl ?_
                      rintro _ _ ⟨rfl, rfl⟩
                      refine DepsK_nil ?_
                      refine WL_guard_skip rfl rfl (by simp) rfl ?_
                      refine WL_nil ?_
                      exact Fin1_val (Below.refl _ _) rfl rfl ⟨rfl, rfl⟩
                    refine Steps_cons ?_ ?_
                    · intro w15 hB15
                      refine DepsK_cons rfl rfl ?_
                      rintro _ _ ⟨rfl, rfl⟩
                      refine DepsK_nil ?_
                      refine WL_guard_skip rfl rfl (by simp) rfl ?_
                      refine WL_nil ?_
                      exact Fin1_val (Below.refl _ _) rfl rfl ⟨rfl, rfl⟩
                    refine Steps_cons ?_ ?_
                    · intro w15 hB15
                      refine DepsK_cons rfl rfl ?_
                      rintro _ _ ⟨rfl, rfl⟩
                      refine DepsK_cons rfl rfl ?_
                      rintro _ _ ⟨rfl, rfl⟩
                      refine DepsK_nil ?_
                      refine WL_guard_skip rfl rfl (by simp) rfl ?_
                      refine WL_nil ?_
                      exact Fin1_val (Below.refl _ _) rfl rfl ⟨rfl, rfl⟩
                    refine Steps_cons ?_ ?_
                    · intro w15 hB15
                      refine DepsK_cons rfl rfl ?_
                      rintro _ _ ⟨rfl, rfl⟩
                      refine DepsK_cons rfl rfl ?_
                      rintro _ _ ⟨rfl, rfl⟩
                      refine DepsK_cons rfl rfl ?_
                      rintro _ _ ⟨rfl, rfl⟩
                      refine DepsK_nil ?_
                      refine WL_guard_skip rfl rfl (by simp) rfl ?_
                      refine WL_nil ?_
                      exact Fin1_val (Below.refl _ _) rfl rfl ⟨rfl, rfl⟩
                    refine Steps_cons ?_ ?_
                    · intro w15 hB15
                      refine DepsK_cons rfl rfl ?_
                      rintro _ _ ⟨rfl, rfl⟩
                      refine DepsK_cons rfl rfl ?_
                      rintro _ _ ⟨rfl, rfl⟩
                      refine DepsK_nil ?_
                      refine WL_guard_skip rfl rfl (by simp) rfl ?_
                      refine WL_nil ?_
                      exact Fin1_val (Below.refl _ _) rfl rfl ⟨rfl, rfl⟩
                    refine Steps_cons ?_ ?_
                    · intro w15 hB15
                      refine DepsK_cons rfl rfl ?_
                      rintro _ _ ⟨rfl, rfl⟩
                      refine DepsK_cons rfl rfl ?_
                      rintro _ _ ⟨rfl, rfl⟩
                      refine DepsK_cons rfl rfl ?_
                      rintro _ _ ⟨rfl, rfl⟩
                      refine DepsK_nil ?_
                      refine WL_guard_skip rfl rfl (by simp) rfl ?_
                      refine WL_nil ?_
                      exact Fin1_val (Below.refl _ _) rfl rfl ⟨rfl, rfl⟩
                    refine Steps_cons ?_ ?_
                    · intro w15 hB15
                      refine DepsK_cons rfl rfl ?_
                      rintro _ _ ⟨rfl, rfl⟩
                      refine DepsK_cons rfl rfl ?_
                      rintro _ _ ⟨rfl, rfl⟩
                      refine DepsK_cons rfl rfl ?_
                      rintro _ _ ⟨rfl, rfl⟩
                      refine DepsK_nil ?_
                      refine WL_guard rfl rfl ?_
                      refine WL_pick_f rfl rfl rfl ?_
                      refine WL_nil ?_
                      exact Fin1_val (Below.refl _ _) rfl rfl ⟨rfl, rfl⟩
                    refine Steps_cons ?_ ?_
                    · intro w15 hB15
                      refine DepsK_cons rfl rfl ?_
                      rintro _ _ ⟨rfl, rfl⟩
                      refine DepsK_cons rfl rfl ?_
                      rintro _ _ ⟨rfl, rfl⟩
                      refine DepsK_nil ?_
                      refine WL_pick_f rfl rfl rfl ?_
                      refine WL_nil ?_
                      exact Fin1_val (Below.refl _ _) rfl rfl ⟨rfl, rfl⟩
                    refine Steps_cons ?_ ?_
                    · intro w15 hB15
                      refine DepsK_cons rfl rfl ?_
                      rintro _ _ ⟨rfl, rfl⟩
                      refine DepsK_nil ?_
                      refine WL_move rfl rfl ?_
                      refine WL_nil ?_
                      exact Fin1_val (Below.refl _ _) rfl rfl ⟨rfl, rfl⟩
                    refine Steps_cons ?_ ?_
                    · intro w15 hB15
                      refine DepsK_cons rfl rfl ?_
                      rintro _ _ ⟨rfl, rfl⟩
                      refine DepsK_nil ?_
                      refine WL_guard rfl rfl ?_
                      refine WL_move rfl rfl ?_
                      refine WL_nil ?_
                      exact Fin1_val (Below.refl _ _) rfl rfl ⟨rfl, rfl⟩
                    refine Steps_cons ?_ ?_
                    · intro w15 hB15
                      refine DepsK_cons rfl rfl ?_
                      rintro _ _ ⟨rfl, rfl⟩
                      refine DepsK_nil ?_
                      refine WL_guard rfl rfl ?_
                      refine WL_move rfl rfl ?_
                      refine WL_nil ?_
                      exact Fin1_val (Below.refl _ _) rfl rfl ⟨rfl, rfl⟩
                    refine Steps_cons ?_ ?_
                    · intro w15 hB15
                      refine DepsK_cons rfl rfl ?_
                      rintro _ _ ⟨rfl, rfl⟩
                      refine DepsK_nil ?_
                      refine WL_guard rfl rfl ?_
                      refine WL_field Try.underlying41 rfl rfl (fun w => ⟨_, Try.sizeOf3 w⟩) rfl rfl ?_
                      refine WL_nil ?_
                      exact Fin1_val (Below.refl _ _) rfl rfl ⟨rfl, rfl⟩
                    refine Steps_cons ?_ ?_
                    · intro w15 hB15
                      refine DepsK_cons rfl rfl ?_
                      rintro _ _ ⟨rfl, rfl⟩
                      refine DepsK_cons rfl rfl ?_
                      rintro _ _ ⟨rfl, rfl⟩
                      refine DepsK_nil ?_
                      refine WL_guard rfl rfl ?_
                      refine WL_load_box (hC4.grow hB15) 0 rfl rfl Try.isAgg3 rfl rfl ?_
                      refine WL_nil ?_
                      exact Fin1_val (Below.refl _ _) rfl rfl ⟨rfl, rfl⟩
                    refine Steps_cons ?_ ?_
                    · intro w15 hB15
                      refine DepsK_cons rfl rfl ?_
                      rintro _ _ ⟨rfl, rfl⟩
                      refine DepsK_cons rfl rfl ?_
                      rintro _ _ ⟨rfl, rfl⟩
                      refine DepsK_cons rfl rfl ?_
                      rintro _ _ ⟨rfl, rfl⟩
                      refine DepsK_cons rfl rfl ?_
                      rintro _ _ ⟨rfl, rfl⟩
                      refine DepsK_nil ?_
                      refine WL_guard rfl rfl ?_
                      refine WL_call Try.call62 rfl rfl (c_M_CallsIn a1 u1 (g1.now (hC4.keep.then hB15)) x4 a2.1 x9 hr7) ?_
                      intro _ w14 hv4
                      obtain ⟨rfl, hB14⟩ := res_int hv4
                      refine WL_nil ?_
                      exact Fin1_val hB14 rfl rfl ⟨rfl, rfl⟩
                    refine Steps_cons ?_ ?_
                    · intro w15 hB15
                      refine DepsK_cons rfl rfl ?_
                      rintro _ _ ⟨rfl, rfl⟩
                      refine DepsK_nil ?_
                      refine WL_guard rfl rfl ?_
                      refine WL_field Try.underlying41 rfl rfl (fun w => ⟨_, Try.sizeOf3 w⟩) rfl rfl ?_
                      refine WL_nil ?_
                      exact Fin1_val (Below.refl _ _) rfl rfl ⟨rfl, rfl⟩
                    refine Steps_cons ?_ ?_
                    · intro w15 hB15
                      refine DepsK_cons rfl rfl ?_
                      rintro _ _ ⟨rfl, rfl⟩
                      refine DepsK_cons rfl rfl ?_
                      rintro _ _ ⟨rfl, rfl⟩
                      refine DepsK_nil ?_
                      refine WL_guard rfl rfl ?_
                      refine WL_load_box (hC4.grow hB15) 0 rfl rfl Try.isAgg3 rfl rfl ?_
                      refine WL_nil ?_
                      exact Fin1_val (Below.refl _ _) rfl rfl ⟨rfl, rfl⟩
                    exact Steps_nil
                  · intro w16 hB16
                    refine AllK_cons rfl ?_
                    rintro _ _ ⟨rfl, rfl⟩
                    refine AllK_cons rfl ?_
                    rintro _ _ ⟨rfl, rfl⟩
                    refine AllK_cons rfl ?_
                    rintro _ _ ⟨rfl, rfl⟩
                    refine AllK_cons rfl ?_
                    rintro _ _ ⟨rfl, rfl⟩
                    refine AllK_cons rfl ?_
                    rintro _ _ ⟨rfl, rfl⟩
                    refine AllK_cons rfl ?_
                    rintro _ _ ⟨rfl, rfl⟩
                    refine AllK_cons rfl ?_
                    rintro _ _ ⟨rfl, rfl⟩
                    refine AllK_cons rfl ?_
                    rintro _ _ ⟨rfl, rfl⟩
                    refine AllK_cons rfl ?_
                    rintro _ _ ⟨rfl, rfl⟩
                    refine AllK_cons rfl ?_
                    rintro _ _ ⟨rfl, rfl⟩
                    refine AllK_cons rfl ?_
                    rintro _ _ ⟨rfl, rfl⟩
                    refine AllK_cons rfl ?_
                    rintro _ _ ⟨rfl, rfl⟩
                    refine AllK_cons rfl ?_
                    rintro _ _ ⟨rfl, rfl⟩
                    refine AllK_cons rfl ?_
                    rintro _ _ ⟨rfl, rfl⟩
                    refine AllK_cons rfl ?_
                    rintro _ _ ⟨rfl, rfl⟩
                    refine AllK_cons rfl ?_
                    rintro _ _ ⟨rfl, rfl⟩
                    refine AllK_cons rfl ?_
                    rintro _ _ ⟨rfl, rfl⟩
                    refine AllK_cons rfl ?_
                    rintro _ _ ⟨rfl, rfl⟩
                    refine AllK_cons rfl ?_
                    rintro _ _ ⟨rfl, rfl⟩
                    refine AllK_cons rfl ?_
                    rintro _ _ ⟨rfl, rfl⟩
                    refine AllK_cons rfl ?_
                    rintro _ _ ⟨rfl, rfl⟩
                    refine AllK_cons rfl ?_
                    rintro _ _ ⟨rfl, rfl⟩
                    refine AllK_cons rfl ?_
                    rintro _ _ ⟨rfl, rfl⟩
                    refine AllK_cons rfl ?_
                    rintro _ _ ⟨rfl, rfl⟩
                    refine AllK_nil ?_
                    intro hn4 hb4
                    have hC9 := hC4.grow hB16
                    refine WL_guard rfl rfl ?_
                    refine WL_gtr rfl rfl rfl ?_
                    refine WL_pick_f rfl rfl rfl ?_
                    refine WL_nil ?_
                    have hq7 := Option.some.inj hr4
                    subst hq7
                    refine nrm_sub (l' := [(0, u1), (3, (ptr b1 0)), (15, u1), (16, (.int .i64 (List.length a1 : Int))), (17, (.int .i64 x3)), (47, (.bool (decide (a2.2 < x9))))]) ⟨rfl, rfl, rfl, rfl, rfl, rfl, trivial⟩ ?_
                    exact ⟨(decide (a2.2 < x9)), rfl, rfl, (Keep.of hB16).below, hC9⟩
            · rintro _ w5 ⟨x5, rfl, rfl, hB5, hC5⟩
              try dsimp only at hL1
              refine W_cond rfl (fun hc7 => ?_) (fun hc7 => ?_)
              · replace hL1 := ite_t hL1 hc7
                refine W_seq_reg ?_
                refine WL_assign rfl rfl ?_
                refine WL_nil ?_
                refine W_ret ?_
                refine blk_ret ?_
                refine nrm_ret ?_
                refine nrm_ret ?_
                refine blk_ret ?_
                refine nrm_ret ?_
                refine nrm_ret ?_
                have hq8 := Option.some.inj hL1
                subst hq8
                dsimp only at hF
                have hq9 := Option.some.inj hF
                subst hq9
                refine fn_ret1 rfl rfl ?_
                exact ⟨_, rfl, bool_res hC5 _⟩
              · replace hL1 := ite_f hL1 hc7
                refine W_skip ?_
                refine blk_normal ?_
                refine nrm_normal ?_
                refine W_reg ?_
                refine WL_add rfl rfl rfl ?_
                refine WL_move rfl rfl ?_
                refine WL_nil ?_
                refine nrm_sub (l' := [(0, u1), (3, (ptr b1 0)), (15, u1), (16, (.int .i64 (List.length a1 : Int))), (17, (.int .i64 (w64 (x3 + 1))))]) ⟨rfl, rfl, rfl, rfl, rfl, trivial⟩ ?_
                exact ⟨k1, Nat.lt_succ_self _, w64 (x3 + 1), rfl, ((Keep.of hB4).then hB5).below, hC5, hL1⟩
          · replace hL1 := ite_f hL1 hc3
            refine W_exit ?_
            refine nrm_exit ?_
            refine nrm_exit ?_
            refine blk_exit ?_
            have hq10 := Option.some.inj hL1
            subst hq10
            have hC10 := hC4.headN 0
            dsimp only [List.take] at hC10
            refine nrm_sub (l' := []) trivial ?_
            exact ⟨rfl, rfl, (Keep.of hB4).below, hC10⟩
      · rintro l4 _ w17 hs4 ⟨rfl, rfl, hB17, hC11⟩
        try dsimp only at hF
        refine nrm_sub' hs4 ?_
        clear hs4
        refine W_seq_reg ?_
        refine WL_assign rfl rfl ?_
        refine WL_nil ?_
        refine W_ret ?_
        have hq11 := Option.some.inj hF
        subst hq11
        refine fn_ret1 rfl rfl ?_
        exact ⟨_, rfl, bool_res hC11 _⟩

theorem c_M_Window_next {w0 : World} (a1 : (Int × Int)) (a2 : (List Int)) (u1 : Value) (g1 : RO [] w0 u1 a2) (a3 : Int) (rr : (Int × Bool)) (hF : M.Window_next a1 a2 a3 = some rr) :
    Calls Try.prog 86 [(.agg #[(.int .i64 a1.1), (.int .i64 a1.2)]), u1, (.int .i64 a3)].toArray w0 fun e w' => ∃ v, e = .returned v ∧ Res2 w0 rr.1 rr.2 v w' := by
  refine calls_of_W Try.func86 rfl rfl ?_
  have hC0 := Ctx.start w0
  unfold M.Window_next at hF
  refine W_seq_reg ?_
  refine WL_box (cs := [(.int .i64 a1.1), (.int .i64 a1.2)]) hC0 rfl rfl rfl (fun b1 w1 hC1 hB1 => ?_)
  refine WL_assign rfl rfl ?_
  refine WL_assign rfl rfl ?_
  refine WL_nil ?_
  refine W_seq_reg ?_
  refine WL_move rfl rfl ?_
  refine WL_assign rfl rfl ?_
  refine WL_nil ?_
  refine W_seq_reg ?_
  refine WL_move rfl rfl ?_
  refine WL_len Try.underlying27 g1 rfl rfl ?_
  refine WL_assign rfl rfl ?_
  refine WL_nil ?_
  refine W_seq ?_
  refine W_seq_reg ?_
  refine WL_move rfl rfl ?_
  refine WL_gtr rfl rfl rfl ?_
  refine WL_nil ?_
  obtain ⟨r1, hr1, hF⟩ := bind_some hF
  refine W_norm (fun l w => ∃ x1 : Int, x1 = r1 ∧ l = [(1, u1), (3, (ptr b1 0)), (8, (.int .i64 x1)), (9, (.int .i64 (List.length a2 : Int)))] ∧ Below w1.heap.size w1 w ∧ Ctx [] w0 w [Item.box b1 [(.int .i64 a1.1), (.int .i64 a1.2)]]) ?_ ?_
  · refine W_cond rfl (fun hc1 => ?_) (fun hc1 => ?_)
    · replace hr1 := ite_t hr1 hc1
      refine W_reg ?_
      refine WL_move rfl rfl ?_
      refine WL_move rfl rfl ?_
      refine WL_move rfl rfl ?_
      refine WL_sub rfl rfl rfl ?_
      obtain ⟨x2, hx1, hr1⟩ := bind_some hr1
      refine WL_index Try.underlying27 ty3 g1 hx1 rfl rfl rfl (fun b2 o1 h1 => ?_)
      refine WL_load ty3 h1 hC1.keep rfl rfl (fun v1 h2 => ?_)
      obtain rfl := ro_int h2
      refine WL_max rfl rfl rfl ?_
      refine WL_assign rfl rfl ?_
      refine WL_nil ?_
      have hq1 := Option.some.inj hr1
      subst hq1
      refine nrm_sub (l' := [(1, u1), (3, (ptr b1 0)), (8, (.int .i64 (if x2 > a3 then x2 else a3))), (9, (.int .i64 (List.length a2 : Int)))]) ⟨rfl, rfl, rfl, rfl, trivial⟩ ?_
      exact ⟨if x2 > a3 then x2 else a3, rfl, rfl, (Below.refl _ _), hC1⟩
    · replace hr1 := ite_f hr1 hc1
      refine W_skip ?_
      have hq2 := Option.some.inj hr1
      subst hq2
      refine nrm_sub (l' := [(1, u1), (3, (ptr b1 0)), (8, (.int .i64 a3)), (9, (.int .i64 (List.length a2 : Int)))]) ⟨rfl, rfl, rfl, rfl, trivial⟩ ?_
      exact ⟨a3, rfl, rfl, (Below.refl _ _), hC1⟩
  · rintro l1 _ w2 hs1 ⟨x1, rfl, rfl, hB2, hC2⟩
    try dsimp only at hF
    refine nrm_sub' hs1 ?_
    clear hs1
    refine W_seq ?_
    refine W_seq_reg ?_
    refine WL_move rfl rfl ?_
    refine WL_field Try.underlying41 rfl rfl (fun w => ⟨_, Try.sizeOf3 w⟩) rfl rfl ?_
    refine WL_load_box hC2 0 rfl rfl Try.isAgg3 rfl rfl ?_
    refine WL_geq rfl rfl rfl ?_
    refine WL_nil ?_
    obtain ⟨r2, hr2, hF⟩ := bind_some hF
    refine W_norm (fun l w => ∃ x3 : Int, x3 = r2 ∧ l = [(8, (.int .i64 x3))] ∧ Below w2.heap.size w2 w ∧ Ctx [] w0 w []) ?_ ?_
    · refine W_cond rfl (fun hc2 => ?_) (fun hc2 => ?_)
      · replace hr2 := ite_t hr2 hc2
        obtain ⟨x4, hx2, hr2⟩ := bind_some hr2
        refine W.sub (l' := [(1, u1), (3, (ptr b1 0)), (8, (.int .i64 x1)), (9, (.int .i64 (List.length a2 : Int))), (22, (.int .i64 (List.length a2 : Int))), (23, (ptr b1 1)), (24, (.int .i64 a1.2)), (25, (.bool (decide (a1.2 ≤ (List.length a2 : Int)))))]) ?_ ⟨rfl, rfl, rfl, rfl, rfl, rfl, rfl, rfl, trivial⟩
        refine W_any 11 [PV.val (.int .i64 x1), PV.val u1, PV.val (.int .i64 (List.length a2 : Int)), PV.val (ptr b1 1), PV.val (.int .i64 a1.2), PV.val (.int .i64 (w64 ((List.length a2 : Int) - a1.2))), PV.at [] w0 x4, PV.val (.int .i64 x4), PV.val (ptr b1 0), PV.val (.int .i64 a1.1), PV.val (.int .i64 (w64 (x4 + a1.1)))] [[], [], [], [], [3], [2, 4], [1, 5], [6], [], [8], [7, 9]] hmix (by kernel_rfl) rfl ?_ ?_
        · refine Steps_cons ?_ ?_
          · intro w4 hB4
            refine DepsK_nil ?_
            refine WL_move rfl rfl ?_
            refine WL_nil ?_
            exact Fin1_val (Below.refl _ _) rfl rfl ⟨rfl, rfl⟩
          refine Steps_cons ?_ ?_
          · intro w4 hB4
            refine DepsK_nil ?_
            refine WL_move rfl rfl ?_
            refine WL_nil ?_
            exact Fin1_val (Below.refl _ _) rfl rfl ⟨rfl, rfl⟩
          refine Steps_cons ?_ ?_
          · intro w4 hB4
            refine DepsK_nil ?_
            refine WL_move rfl rfl ?_
            refine WL_nil ?_
            exact Fin1_val (Below.refl _ _) rfl rfl ⟨rfl, rfl⟩
          refine Steps_cons ?_ ?_
          · intro w4 hB4
            refine DepsK_nil ?_
            refine WL_field Try.underlying41 rfl rfl (fun w => ⟨_, Try.sizeOf3 w⟩) rfl rfl ?_
            refine WL_nil ?_
            exact Fin1_val (Below.refl _ _) rfl rfl ⟨rfl, rfl⟩
          refine Steps_cons ?_ ?_
          · intro w4 hB4
            refine DepsK_cons rfl rfl ?_
            rintro _ _ ⟨rfl, rfl⟩
            refine DepsK_nil ?_
            refine WL_load_box (hC2.grow hB4) 0 rfl rfl Try.isAgg3 rfl rfl ?_
            refine WL_nil ?_
            exact Fin1_val (Below.refl _ _) rfl rfl ⟨rfl, rfl⟩
          refine Steps_cons ?_ ?_
          · intro w4 hB4
            refine DepsK_cons rfl rfl ?_
            rintro _ _ ⟨rfl, rfl⟩
            refine DepsK_cons rfl rfl ?_
            rintro _ _ ⟨rfl, rfl⟩
            refine DepsK_nil ?_
            refine WL_sub rfl rfl rfl ?_
            refine WL_nil ?_
            exact Fin1_val (Below.refl _ _) rfl rfl ⟨rfl, rfl⟩
          refine Steps_cons ?_ ?_
          · intro w4 hB4
            refine DepsK_cons rfl rfl ?_
            rintro _ _ ⟨rfl, rfl⟩
            refine DepsK_cons rfl rfl ?_
            rintro _ _ ⟨rfl, rfl⟩
            refine DepsK_nil ?_
            refine WL_index Try.underlying27 ty3 g1 hx2 rfl rfl rfl (fun b3 o2 h3 => ?_)
            refine WL_nil ?_
            exact Fin1_val (Below.refl _ _) rfl rfl ⟨rfl, _, _, rfl, h3⟩
          refine Steps_cons ?_ ?_
          · intro w4 hB4
            refine DepsK_cons rfl rfl ?_
            rintro _ _ ⟨rfl, b3, o2, rfl, h3⟩
            refine DepsK_nil ?_
            refine WL_load ty3 h3 (hC2.keep.then hB4) rfl rfl (fun v2 h4 => ?_)
            obtain rfl := ro_int h4
            refine WL_nil ?_
            exact Fin1_val (Below.refl _ _) rfl rfl ⟨rfl, rfl⟩
          refine Steps_cons ?_ ?_
          · intro w4 hB4
            refine DepsK_nil ?_
            refine WL_field Try.underlying41 rfl rfl (fun w => ⟨_, Try.sizeOf3 w⟩) rfl rfl ?_
            refine WL_nil ?_
            exact Fin1_val (Below.refl _ _) rfl rfl ⟨rfl, rfl⟩
          refine Steps_cons ?_ ?_
          · intro w4 hB4
            refine DepsK_cons rfl rfl ?_
            rintro _ _ ⟨rfl, rfl⟩
            refine DepsK_nil ?_
            refine WL_load_box (hC2.grow hB4) 0 rfl rfl Try.isAgg3 rfl rfl ?_
            refine WL_nil ?_
            exact Fin1_val (Below.refl _ _) rfl rfl ⟨rfl, rfl⟩
          refine Steps_cons ?_ ?_
          · intro w4 hB4
            refine DepsK_cons rfl rfl ?_
            rintro _ _ ⟨rfl, rfl⟩
            refine DepsK_cons rfl rfl ?_
            rintro _ _ ⟨rfl, rfl⟩
            refine DepsK_nil ?_
            refine WL_add rfl rfl rfl ?_
            refine WL_nil ?_
            exact Fin1_val (Below.refl _ _) rfl rfl ⟨rfl, rfl⟩
          exact Steps_nil
        · intro w5 hB5
          refine AllK_cons rfl ?_
          rintro _ _ ⟨rfl, rfl⟩
          refine AllK_cons rfl ?_
          rintro _ _ ⟨rfl, rfl⟩
          refine AllK_cons rfl ?_
          rintro _ _ ⟨rfl, rfl⟩
          refine AllK_cons rfl ?_
          rintro _ _ ⟨rfl, rfl⟩
          refine AllK_cons rfl ?_
          rintro _ _ ⟨rfl, rfl⟩
          refine AllK_cons rfl ?_
          rintro _ _ ⟨rfl, rfl⟩
          refine AllK_cons rfl ?_
          rintro _ _ ⟨rfl, b3, o2, rfl, h3⟩
          refine AllK_cons rfl ?_
          rintro _ _ ⟨rfl, rfl⟩
          refine AllK_cons rfl ?_
          rintro _ _ ⟨rfl, rfl⟩
          refine AllK_cons rfl ?_
          rintro _ _ ⟨rfl, rfl⟩
          refine AllK_cons rfl ?_
          rintro _ _ ⟨rfl, rfl⟩
          refine AllK_nil ?_
          intro hn1 hb1
          have hC4 := hC2.grow hB5
          refine WL_max rfl rfl rfl ?_
          refine WL_assign rfl rfl ?_
          refine WL_nil ?_
          have hq3 := Option.some.inj hr2
          subst hq3
          have hC5 := hC4.headN 0
          dsimp only [List.take] at hC5
          refine nrm_sub (l' := [(8, (.int .i64 (if (w64 (x4 + a1.1)) > x1 then w64 (x4 + a1.1) else x1)))]) ⟨rfl, trivial⟩ ?_
          exact ⟨if (w64 (x4 + a1.1)) > x1 then w64 (x4 + a1.1) else x1, rfl, rfl, (Keep.of hB5).below, hC5⟩
      · replace hr2 := ite_f hr2 hc2
        refine W_skip ?_
        have hq4 := Option.some.inj hr2
        subst hq4
        have hC6 := hC2.headN 0
        dsimp only [List.take] at hC6
        refine nrm_sub (l' := [(8, (.int .i64 x1))]) ⟨rfl, trivial⟩ ?_
        exact ⟨x1, rfl, rfl, (Below.refl _ _), hC6⟩
    · rintro l2 _ w3 hs2 ⟨x3, rfl, rfl, hB3, hC3⟩
      try dsimp only at hF
      refine nrm_sub' hs2 ?_
      clear hs2
      refine W_seq ?_
      refine W_seq_reg ?_
      refine WL_move rfl rfl ?_
      refine WL_gtr rfl rfl rfl ?_
      refine WL_nil ?_
      refine W_cond rfl (fun hc3 => ?_) (fun hc3 => ?_)
      · replace hF := ite_t hF hc3
        refine W_seq_reg ?_
        refine WL_assign rfl rfl ?_
        refine WL_assign rfl rfl ?_
        refine WL_nil ?_
        refine W_ret ?_
        refine nrm_ret ?_
        have hq5 := Option.some.inj hF
        subst hq5
        refine fn_ret2 rfl rfl rfl ?_
        have hC7 := hC3.triv (bool_val (false))
        have hC8 := hC7.triv (int_val (0))
        exact ⟨_, rfl, res2_of hC8⟩
      · replace hF := ite_f hF hc3
        refine W_skip ?_
        refine nrm_normal ?_
        refine W_seq_reg ?_
        refine WL_move rfl rfl ?_
        refine WL_assign rfl rfl ?_
        refine WL_assign rfl rfl ?_
        refine WL_nil ?_
        refine W_ret ?_
        have hq6 := Option.some.inj hF
        subst hq6
        refine fn_ret2 rfl rfl rfl ?_
        have hC9 := hC3.triv (bool_val (true))
        have hC10 := hC9.triv (int_val (x3))
        exact ⟨_, rfl, res2_of hC10⟩

theorem c_M_NextTime {w0 : World} (a1 : (List Int)) (u1 : Value) (g1 : RO [] w0 u1 a1) (a2 : (Int × Int)) (a3 : Int) (rr : (Int × Bool)) (hF : M.NextTime a1 a2 a3 = some rr) :
    Calls Try.prog 29 [u1, (.agg #[(.int .i64 a2.1), (.int .i64 a2.2)]), (.int .i64 a3)].toArray w0 fun e w' => ∃ v, e = .returned v ∧ Res2 w0 rr.1 rr.2 v w' := by
  refine calls_of_W Try.func29 rfl rfl ?_
  have hC0 := Ctx.start w0
  unfold M.NextTime at hF
  refine W_seq_reg ?_
  refine WL_box (cs := [(.int .i64 a2.1), (.int .i64 a2.2)]) hC0 rfl rfl rfl (fun b1 w1 hC1 hB1 => ?_)
  refine WL_assign rfl rfl ?_
  refine WL_assign rfl rfl ?_
  refine WL_nil ?_
  refine W_seq ?_
  obtain ⟨r1, hr1, hF⟩ := bind_some hF
  refine W_cut (fun l w => ∃ x1 : Bool, x1 = r1 ∧ l = [(0, u1), (2, (.int .i64 a3)), (4, (ptr b1 0)), (16, (.bool x1))] ∧ Below w1.heap.size w1 w ∧ Ctx [] w0 w [Item.box b1 [(.int .i64 a2.1), (.int .i64 a2.2)]]) ?_ ?_
  · refine W_reg ?_
    refine WL_move rfl rfl ?_
    refine WL_load_box_agg [(.int .i64 a2.1), (.int .i64 a2.2)] hC1 0 rfl rfl rfl Try.isAgg41 Try.sizeOf41 rfl rfl ?_
    obtain ⟨x2, hr2, hr1⟩ := bind_some hr1
    refine WL_call Try.call56 rfl rfl (c_M_IsKept a1 u1 (g1.now hC1.keep) (a2.1, a2.2) x2 hr2) ?_
    intro _ w3 hv1
    obtain ⟨rfl, hB3⟩ := res_bool hv1
    have hC3 := hC1.grow hB3
    refine WL_not rfl rfl ?_
    refine WL_move rfl rfl ?_
    refine WL_fork (fun hc1 => ?_) (fun hc1 => ?_)
    · replace hr1 := ite_t hr1 hc1
      refine WL_guard_skip rfl rfl (by simp) rfl ?_
      refine WL_guard_skip rfl rfl (by simp) rfl ?_
      refine WL_guard_skip rfl rfl (by simp) rfl ?_
      refine WL_pick_t rfl rfl rfl ?_
      refine WL_nil ?_
      have hq1 := Option.some.inj hr1
      subst hq1
      refine nrm_sub (l' := [(0, u1), (2, (.int .i64 a3)), (4, (ptr b1 0)), (16, (.bool true))]) ⟨rfl, rfl, rfl, rfl, trivial⟩ ?_
      exact ⟨true, rfl, rfl, (Keep.of hB3).below, hC3⟩
    · replace hr1 := ite_f hr1 hc1
      refine WL_guard rfl rfl ?_
      refine WL_move rfl rfl ?_
      obtain ⟨x3, hr3, hr1⟩ := bind_some hr1
      refine WL_guard rfl rfl ?_
      refine WL_call Try.call85 rfl rfl (c_M_isTime a3 x3 hr3) ?_
      intro _ w4 hv2
      obtain ⟨rfl, hB4⟩ := res_bool hv2
      have hC4 := hC3.grow hB4
      refine WL_guard rfl rfl ?_
      refine WL_not rfl rfl ?_
      refine WL_pick_f rfl rfl rfl ?_
      refine WL_nil ?_
      have hq2 := Option.some.inj hr1
      subst hq2
      refine nrm_sub (l' := [(0, u1), (2, (.int .i64 a3)), (4, (ptr b1 0)), (16, (.bool (!x3)))]) ⟨rfl, rfl, rfl, rfl, trivial⟩ ?_
      exact ⟨(!x3), rfl, rfl, ((Keep.of hB3).then hB4).below, hC4⟩
  · rintro _ w2 ⟨x1, rfl, rfl, hB2, hC2⟩
    try dsimp only at hF
    refine W_cond rfl (fun hc2 => ?_) (fun hc2 => ?_)
    · replace hF := ite_t hF hc2
      refine W_seq_reg ?_
      refine WL_assign rfl rfl ?_
      refine WL_assign rfl rfl ?_
      refine WL_nil ?_
      refine W_ret ?_
      refine nrm_ret ?_
      have hq3 := Option.some.inj hF
      subst hq3
      refine fn_ret2 rfl rfl rfl ?_
      have hC5 := hC2.triv (bool_val (false))
      have hC6 := hC5.triv (int_val (0))
      exact ⟨_, rfl, res2_of hC6⟩
    · replace hF := ite_f hF hc2
      refine W_skip ?_
      refine nrm_normal ?_
      refine W_seq_reg ?_
      refine WL_load_box_agg [(.int .i64 a2.1), (.int .i64 a2.2)] hC2 0 rfl rfl rfl Try.isAgg41 Try.sizeOf41 rfl rfl ?_
      refine WL_move rfl rfl ?_
      refine WL_move rfl rfl ?_
      obtain ⟨x4, hr4, hF⟩ := bind_some hF
      refine WL_call Try.call86 rfl rfl (c_M_Window_next (a2.1, a2.2) a1 u1 (g1.now hC2.keep) a3 x4 hr4) ?_
      rintro _ w5 ⟨hB5, v1, v2, F1, F2, rfl, hv3, hv4, hn1, hb1⟩
      obtain ⟨rfl, rfl⟩ := val_int hv3
      obtain ⟨rfl, rfl⟩ := val_bool hv4
      have hC7 := hC2.grow hB5
      refine WL_extract rfl rfl rfl ?_
      refine WL_extract rfl rfl rfl ?_
      refine WL_assign rfl rfl ?_
      refine WL_assign rfl rfl ?_
      refine WL_nil ?_
      refine W_ret ?_
      have hq4 := Option.some.inj hF
      subst hq4
      refine fn_ret2 rfl rfl rfl ?_
      have hC8 := hC7.triv (bool_val (x4.2))
      have hC9 := hC8.triv (int_val (x4.1))
      exact ⟨_, rfl, res2_of hC9⟩

theorem c_Q_eqIntS {w0 : World} (a1 : (List Int)) (u1 : Value) (g1 : RO [] w0 u1 a1) (a2 : (List Int)) (u2 : Value) (g2 : RO [] w0 u2 a2) (rr : Bool) (hF : Q.eqIntS a1 a2 = some rr) :
    Calls Try.prog 30 [u1, u2].toArray w0 fun e w' => ∃ v, e = .returned v ∧ Res w0 rr v w' := by
  refine calls_of_W Try.func30 rfl rfl ?_
  have hC0 := Ctx.start w0
  unfold Q.eqIntS at hF
  refine W_seq_reg ?_
  refine WL_assign rfl rfl ?_
  refine WL_nil ?_
  refine W_seq ?_
  refine W_seq_reg ?_
  refine WL_move rfl rfl ?_
  refine WL_len Try.underlying27 g1 rfl rfl ?_
  refine WL_move rfl rfl ?_
  refine WL_len Try.underlying27 g2 rfl rfl ?_
  refine WL_neq rfl rfl rfl ?_
  refine WL_nil ?_
  refine W_cond rfl (fun hc1 => ?_) (fun hc1 => ?_)
  · replace hF := ite_t hF hc1
    refine W_seq_reg ?_
    refine WL_assign rfl rfl ?_
    refine WL_nil ?_
    refine W_ret ?_
    refine nrm_ret ?_
    have hq1 := Option.some.inj hF
    subst hq1
    refine fn_ret1 rfl rfl ?_
    exact ⟨_, rfl, bool_res hC0 _⟩
  · replace hF := ite_f hF hc1
    refine W_skip ?_
    refine nrm_normal ?_
    refine W_seq ?_
    refine W_seq_reg ?_
    refine WL_assign rfl rfl ?_
    refine WL_nil ?_
    obtain ⟨r1, hr1, hF⟩ := bind_some hF
    refine W_norm (fun l w => .inl () = r1 ∧ l = [] ∧ Below w0.heap.size w0 w ∧ Ctx [] w0 w []) ?_ ?_
    · refine W_block ?_
      refine W.sub (l' := [(0, u1), (1, u2), (5, (.int .i64 0))]) ?_ ⟨rfl, rfl, rfl, trivial⟩
      refine W_loop (fun k l w => ∃ x1 : Int, l = [(0, u1), (1, u2), (5, (.int .i64 x1))] ∧ Below w0.heap.size w0 w ∧ Ctx [] w0 w [] ∧ Q.eqIntS_l1 a1 a2 k x1 = some r1) FUEL ⟨0, rfl, (Below.refl _ _), hC0, hr1⟩ ?_
      clear hr1
      rintro k1 _ w1 ⟨x1, rfl, hB1, hC1, hL1⟩
      cases k1 with
      | zero => rw [Q.eqIntS_l1] at hL1; cases hL1
      | succ k1 =>
        rw [Q.eqIntS_l1] at hL1
        refine W_seq ?_
        refine W_seq_reg ?_
        refine WL_move rfl rfl ?_
        refine WL_move rfl rfl ?_
        refine WL_len Try.underlying27 g1 rfl rfl ?_
        refine WL_lss rfl rfl rfl ?_
        refine WL_nil ?_
        refine W_cond rfl (fun hc2 => ?_) (fun hc2 => ?_)
        · replace hL1 := ite_t hL1 hc2
          refine W_skip ?_
          refine nrm_normal ?_
          refine W_seq ?_
          refine W_block ?_
          refine W_seq ?_
          obtain ⟨x2, hx1, hL1⟩ := bind_some hL1
          obtain ⟨x3, hx2, hL1⟩ := bind_some hL1
          refine W.sub (l' := [(0, u1), (1, u2), (5, (.int .i64 x1)), (11, (.int .i64 x1)), (12, u1), (13, (.int .i64 (List.length a1 : Int))), (14, (.bool (decide (x1 < (List.length a1 : Int)))))]) ?_ ⟨rfl, rfl, rfl, rfl, rfl, rfl, rfl, trivial⟩
          refine W_any 8 [PV.val u1, PV.val (.int .i64 x1), PV.at [] w0 x2, PV.val (.int .i64 x2), PV.val u2, PV.val (.int .i64 x1), PV.at [] w0 x3, PV.val (.int .i64 x3)] [[], [], [0, 1], [2], [], [], [4, 5], [6]] hmix (by kernel_rfl) rfl ?_ ?_
          · refine Steps_cons ?_ ?_
            · intro w2 hB2
              refine DepsK_nil ?_
              refine WL_move rfl rfl ?_
              refine WL_nil ?_
              exact Fin1_val (Below.refl _ _) rfl rfl ⟨rfl, rfl⟩
            refine Steps_cons ?_ ?_
            · intro w2 hB2
              refine DepsK_nil ?_
              refine WL_move rfl rfl ?_
              refine WL_nil ?_
              exact Fin1_val (Below.refl _ _) rfl rfl ⟨rfl, rfl⟩
            refine Steps_cons ?_ ?_
            · intro w2 hB2
              refine DepsK_cons rfl rfl ?_
              rintro _ _ ⟨rfl, rfl⟩
              refine DepsK_cons rfl rfl ?_
              rintro _ _ ⟨rfl, rfl⟩
              refine DepsK_nil ?_
              refine WL_index Try.underlying27 ty3 g1 hx1 rfl rfl rfl (fun b1 o1 h1 => ?_)
              refine WL_nil ?_
              exact Fin1_val (Below.refl _ _) rfl rfl ⟨rfl, _, _, rfl, h1⟩
            refine Steps_cons ?_ ?_
            · intro w2 hB2
              refine DepsK_cons rfl rfl ?_
              rintro _ _ ⟨rfl, b1, o1, rfl, h1⟩
              refine DepsK_nil ?_
              refine WL_load ty3 h1 (hC1.keep.then hB2) rfl rfl (fun v1 h2 => ?_)
              obtain rfl := ro_int h2
              refine WL_nil ?_
              exact Fin1_val (Below.refl _ _) rfl rfl ⟨rfl, rfl⟩
            refine Steps_cons ?_ ?_
            · intro w2 hB2
              refine DepsK_nil ?_
              refine WL_move rfl rfl ?_
              refine WL_nil ?_
              exact Fin1_val (Below.refl _ _) rfl rfl ⟨rfl, rfl⟩
            refine Steps_cons ?_ ?_
            · intro w2 hB2
              refine DepsK_nil ?_
              refine WL_move rfl rfl ?_
              refine WL_nil ?_
              exact Fin1_val (Below.refl _ _) rfl rfl ⟨rfl, rfl⟩
            refine Steps_cons ?_ ?_
            · intro w2 hB2
              refine DepsK_cons rfl rfl ?_
              rintro _ _ ⟨rfl, rfl⟩
              refine DepsK_cons rfl rfl ?_
              rintro _ _ ⟨rfl, rfl⟩
              refine DepsK_nil ?_
              refine WL_index Try.underlying27 ty3 g2 hx2 rfl rfl rfl (fun b2 o2 h3 => ?_)
              refine WL_nil ?_
              exact Fin1_val (Below.refl _ _) rfl rfl ⟨rfl, _, _, rfl, h3⟩
            refine Steps_cons ?_ ?_
            · intro w2 hB2
              refine DepsK_cons rfl rfl ?_
              rintro _ _ ⟨rfl, b2, o2, rfl, h3⟩
              refine DepsK_nil ?_
              refine WL_load ty3 h3 (hC1.keep.then hB2) rfl rfl (fun v2 h4 => ?_)
              obtain rfl := ro_int h4
              refine WL_nil ?_
              exact Fin1_val (Below.refl _ _) rfl rfl ⟨rfl, rfl⟩
            exact Steps_nil
          · intro w3 hB3
            refine AllK_cons rfl ?_
            rintro _ _ ⟨rfl, rfl⟩
            refine AllK_cons rfl ?_
            rintro _ _ ⟨rfl, rfl⟩
            refine AllK_cons rfl ?_
            rintro _ _ ⟨rfl, b1, o1, rfl, h1⟩
            refine AllK_cons rfl ?_
            rintro _ _ ⟨rfl, rfl⟩
            refine AllK_cons rfl ?_
            rintro _ _ ⟨rfl, rfl⟩
            refine AllK_cons rfl ?_
            rintro _ _ ⟨rfl, rfl⟩
            refine AllK_cons rfl ?_
            rintro _ _ ⟨rfl, b2, o2, rfl, h3⟩
            refine AllK_cons rfl ?_
            rintro _ _ ⟨rfl, rfl⟩
            refine AllK_nil ?_
            intro hn1 hb1
            have hC2 := hC1.grow hB3
            refine WL_neq rfl rfl rfl ?_
            refine WL_nil ?_
            refine nrm_normal ?_
            refine W_cond rfl (fun hc3 => ?_) (fun hc3 => ?_)
            · replace hL1 := ite_t hL1 hc3
              refine W_seq_reg ?_
              refine WL_assign rfl rfl ?_
              refine WL_nil ?_
              refine W_ret ?_
              refine blk_ret ?_
              refine nrm_ret ?_
              refine nrm_ret ?_
              refine blk_ret ?_
              refine nrm_ret ?_
              refine nrm_ret ?_
              have hq2 := Option.some.inj hL1
              subst hq2
              dsimp only at hF
              have hq3 := Option.some.inj hF
              subst hq3
              refine fn_ret1 rfl rfl ?_
              exact ⟨_, rfl, bool_res hC2 _⟩
            · replace hL1 := ite_f hL1 hc3
              refine W_skip ?_
              refine blk_normal ?_
              refine nrm_normal ?_
              refine W_reg ?_
              refine WL_move rfl rfl ?_
              refine WL_add rfl rfl rfl ?_
              refine WL_assign rfl rfl ?_
              refine WL_nil ?_
              refine nrm_sub (l' := [(0, u1), (1, u2), (5, (.int .i64 (w64 (x1 + 1))))]) ⟨rfl, rfl, rfl, trivial⟩ ?_
              exact ⟨k1, Nat.lt_succ_self _, w64 (x1 + 1), rfl, ((Keep.of hB1).then hB3).below, hC2, hL1⟩
        · replace hL1 := ite_f hL1 hc2
          refine W_exit ?_
          refine nrm_exit ?_
          refine nrm_exit ?_
          refine blk_exit ?_
          have hq4 := Option.some.inj hL1
          subst hq4
          refine nrm_sub (l' := []) trivial ?_
          exact ⟨rfl, rfl, (Keep.of hB1).below, hC1⟩
    · rintro l2 _ w4 hs2 ⟨rfl, rfl, hB4, hC3⟩
      try dsimp only at hF
      refine nrm_sub' hs2 ?_
      clear hs2
      refine W_seq_reg ?_
      refine WL_assign rfl rfl ?_
      refine WL_nil ?_
      refine W_ret ?_
      have hq5 := Option.some.inj hF
      subst hq5
      refine fn_ret1 rfl rfl ?_
      exact ⟨_, rfl, bool_res hC3 _⟩

theorem c_Q_FnExactNextTime {w0 : World} (a1 : (List Int)) (u1 : Value) (g1 : RO [] w0 u1 a1) (a2 : (Int × Int)) (a3 : Int) (rr : Bool) (hF : Q.FnExactNextTime a1 a2 a3 = some rr) :
    Calls Try.prog 7 [u1, (.agg #[(.int .i64 a2.1), (.int .i64 a2.2)]), (.int .i64 a3)].toArray w0 fun e w' => ∃ v, e = .returned v ∧ Res w0 rr v w' := by
  refine calls_of_W Try.func7 rfl rfl ?_
  have hC0 := Ctx.start w0
  unfold Q.FnExactNextTime at hF
  refine W_seq_reg ?_
  refine WL_box (cs := [(.int .i64 a2.1), (.int .i64 a2.2)]) hC0 rfl rfl rfl (fun b1 w1 hC1 hB1 => ?_)
  refine WL_assign rfl rfl ?_
  refine WL_nil ?_
  refine W_seq ?_
  refine W_seq_reg ?_
  refine WL_move rfl rfl ?_
  refine WL_len Try.underlying27 g1 rfl rfl ?_
  refine WL_gtr rfl rfl rfl ?_
  refine WL_nil ?_
  refine W_cond rfl (fun hc1 => ?_) (fun hc1 => ?_)
  · replace hF := ite_t hF hc1
    refine W_seq_reg ?_
    refine WL_assign rfl rfl ?_
    refine WL_nil ?_
    refine W_ret ?_
    refine nrm_ret ?_
    have hq1 := Option.some.inj hF
    subst hq1
    refine fn_ret1 rfl rfl ?_
    exact ⟨_, rfl, bool_res hC1 _⟩
  · replace hF := ite_f hF hc1
    refine W_skip ?_
    refine nrm_normal ?_
    refine W_seq ?_
    obtain ⟨x1, hr1, hF⟩ := bind_some hF
    obtain ⟨x2, hr2, hF⟩ := bind_some hF
    obtain ⟨x3, hr3, hF⟩ := bind_some hF
    refine W.sub (l' := [(0, u1), (1, (.agg #[(.int .i64 a2.1), (.int .i64 a2.2)])), (2, (.int .i64 a3)), (4, (ptr b1 0)), (6, (.bool false)), (12, u1), (13, (.int .i64 (List.length a1 : Int))), (14, (.bool (decide (1048576 < (List.length a1 : Int)))))]) ?_ ⟨rfl, rfl, rfl, rfl, rfl, rfl, rfl, rfl, trivial⟩
    refine W_any 10 [PV.val u1, PV.own x1, PV.val (.agg #[(.int .i64 a2.1), (.int .i64 a2.2)]), PV.val (.agg #[(.int .i64 x2.1), (.int .i64 x2.2)]), PV.val (.int .i64 a3), PV.val (.tuple #[(.int .i64 x3.1), (.bool x3.2)]), PV.val (.tuple #[(.int .i64 x3.1), (.bool x3.2)]), PV.val (.int .i64 x3.1), PV.val (.bool x3.2), PV.val (.int .i64 x3.1)] [[], [0], [], [2], [], [1, 3, 4], [5], [6], [6], [7]] hmix (by kernel_rfl) rfl ?_ ?_
    · refine Steps_cons ?_ ?_
      · intro w5 hB5
        refine DepsK_nil ?_
        refine WL_move rfl rfl ?_
        refine WL_nil ?_
        exact Fin1_val (Below.refl _ _) rfl rfl ⟨rfl, rfl⟩
      refine Steps_cons ?_ ?_
      · intro w5 hB5
        refine DepsK_cons rfl rfl ?_
        rintro _ _ ⟨rfl, rfl⟩
        refine DepsK_nil ?_
        refine WL_call Try.call27 rfl rfl (c_Q_toIntS a1 u1 (g1.now (hC1.keep.then hB5)) x1 hr1) ?_
        rintro v1 w2 ⟨hB2, F1, hv1, hn1, hb1⟩
        refine WL_nil ?_
        exact Fin1_own hB2 rfl rfl hv1 hn1 hb1 (Val.inh hv1)
      refine Steps_cons ?_ ?_
      · intro w5 hB5
        refine DepsK_nil ?_
        refine WL_load_box_agg [(.int .i64 a2.1), (.int .i64 a2.2)] (hC1.grow hB5) 0 rfl rfl rfl Try.isAgg37 Try.sizeOf37 rfl rfl ?_
        refine WL_nil ?_
        exact Fin1_val (Below.refl _ _) rfl rfl ⟨rfl, rfl⟩
      refine Steps_cons ?_ ?_
      · intro w5 hB5
        refine DepsK_cons rfl rfl ?_
        rintro _ _ ⟨rfl, rfl⟩
        refine DepsK_nil ?_
        refine WL_call Try.call28 rfl rfl (c_Q_toWindow (a2.1, a2.2) x2 hr2) ?_
        rintro v2 w3 ⟨hB3, F2, hv2, hn2, hb2⟩
        obtain rfl := ro_st41 (D := []) ⟨F2, Val.weak hv2, by simp⟩
        refine WL_nil ?_
        exact Fin1_val hB3 rfl rfl ⟨rfl, rfl⟩
      refine Steps_cons ?_ ?_
      · intro w5 hB5
        refine DepsK_nil ?_
        refine WL_move rfl rfl ?_
        refine WL_nil ?_
        exact Fin1_val (Below.refl _ _) rfl rfl ⟨rfl, rfl⟩
      refine Steps_cons ?_ ?_
      · intro w5 hB5
        refine DepsK_cons rfl rfl ?_
        intro v1 F1 hv1
        refine DepsK_cons rfl rfl ?_
        rintro _ _ ⟨rfl, rfl⟩
        refine DepsK_cons rfl rfl ?_
        rintro _ _ ⟨rfl, rfl⟩
        refine DepsK_nil ?_
        refine WL_call Try.call26 rfl rfl (c_S_NextTime x1 v1 (ro_of_own hv1) x2 a3 x3 hr3) ?_
        rintro _ w4 ⟨hB4, v3, v4, F3, F4, rfl, hv4, hv5, hn3, hb3⟩
        obtain ⟨rfl, rfl⟩ := val_int hv4
        obtain ⟨rfl, rfl⟩ := val_bool hv5
        refine WL_nil ?_
        exact Fin1_val hB4 rfl rfl ⟨rfl, rfl⟩
      refine Steps_cons ?_ ?_
      · intro w5 hB5
        refine DepsK_cons rfl rfl ?_
        rintro _ _ ⟨rfl, rfl⟩
        refine DepsK_nil ?_
        refine WL_move rfl rfl ?_
        refine WL_nil ?_
        exact Fin1_val (Below.refl _ _) rfl rfl ⟨rfl, rfl⟩
      refine Steps_cons ?_ ?_
      · intro w5 hB5
        refine DepsK_cons rfl rfl ?_
        rintro _ _ ⟨rfl, rfl⟩
        refine DepsK_nil ?_
        refine WL_extract rfl rfl rfl ?_
        refine WL_nil ?_
        exact Fin1_val (Below.refl _ _) rfl rfl ⟨rfl, rfl⟩
      refine Steps_cons ?_ ?_
      · intro w5 hB5
        refine DepsK_cons rfl rfl ?_
        rintro _ _ ⟨rfl, rfl⟩
        refine DepsK_nil ?_
        refine WL_extract rfl rfl rfl ?_
        refine WL_nil ?_
        exact Fin1_val (Below.refl _ _) rfl rfl ⟨rfl, rfl⟩
      refine Steps_cons ?_ ?_
      · intro w5 hB5
        refine DepsK_cons rfl rfl ?_
        rintro _ _ ⟨rfl, rfl⟩
        refine DepsK_nil ?_
        refine WL_assign rfl rfl ?_
        refine WL_nil ?_
        exact Fin1_val (Below.refl _ _) rfl rfl ⟨rfl, rfl⟩
      exact Steps_nil
    · intro w6 hB6
      refine AllK_cons rfl ?_
      rintro _ _ ⟨rfl, rfl⟩
      refine AllK_cons rfl ?_
      intro v1 F1 hv1
      refine AllK_cons rfl ?_
      rintro _ _ ⟨rfl, rfl⟩
      refine AllK_cons rfl ?_
      rintro _ _ ⟨rfl, rfl⟩
      refine AllK_cons rfl ?_
      rintro _ _ ⟨rfl, rfl⟩
      refine AllK_cons rfl ?_
      rintro _ _ ⟨rfl, rfl⟩
      refine AllK_cons rfl ?_
      rintro _ _ ⟨rfl, rfl⟩
      refine AllK_cons rfl ?_
      rintro _ _ ⟨rfl, rfl⟩
      refine AllK_cons rfl ?_
      rintro _ _ ⟨rfl, rfl⟩
      refine AllK_cons rfl ?_
      rintro _ _ ⟨rfl, rfl⟩
      refine AllK_nil ?_
      intro hn4 hb4
      have hC2 := hC1.pushL hB6 (Bs := [Item.own v1 x1]) (Fs := [F1]) ⟨F1, _, rfl, hv1, rfl⟩ (by simpa using hn4) (fun b h => (hb4 b (by simpa using h)).1)
      refine WL_assign rfl rfl ?_
      refine WL_nil ?_
      refine nrm_normal ?_
      refine W_seq_reg ?_
      refine WL_move rfl rfl ?_
      obtain ⟨x4, hr4, hF⟩ := bind_some hF
      refine WL_call Try.call27 rfl rfl (c_Q_toIntS a1 u1 (g1.now hC2.keep) x4 hr4) ?_
      rintro v5 w7 ⟨hB7, F5, hv6, hn5, hb5⟩
      have hC3 := hC2.push hB7 (A := Item.own v5 x4) hv6 hn5 hb5
      refine WL_assign rfl rfl ?_
      refine WL_nil ?_
      refine W_seq_reg ?_
      refine WL_move rfl rfl ?_
      refine WL_load_box_agg [(.int .i64 a2.1), (.int .i64 a2.2)] hC3 2 rfl rfl rfl Try.isAgg37 Try.sizeOf37 rfl rfl ?_
      obtain ⟨x5, hr5, hF⟩ := bind_some hF
      refine WL_call Try.call28 rfl rfl (c_Q_toWindow (a2.1, a2.2) x5 hr5) ?_
      rintro v6 w8 ⟨hB8, F6, hv7, hn6, hb6⟩
      have hC4 := hC3.push hB8 (A := Item.own v6 x5) hv7 hn6 hb6
      obtain ⟨rfl, hC5⟩ := st41_own hC4
      refine WL_move rfl rfl ?_
      obtain ⟨x6, hr6, hF⟩ := bind_some hF
      refine WL_call Try.call29 rfl rfl (c_M_NextTime x4 v5 ((hC5.ro 0 rfl).now (Keep.refl _ _)) x5 a3 x6 hr6) ?_
      rintro _ w9 ⟨hB9, v7, v8, F7, F8, rfl, hv8, hv9, hn7, hb7⟩
      obtain ⟨rfl, rfl⟩ := val_int hv8
      obtain ⟨rfl, rfl⟩ := val_bool hv9
      have hC6 := hC5.grow hB9
      refine WL_move rfl rfl ?_
      refine WL_extract rfl rfl rfl ?_
      refine WL_extract rfl rfl rfl ?_
      refine WL_assign rfl rfl ?_
      refine WL_assign rfl rfl ?_
      refine WL_nil ?_
      refine W_seq ?_
      obtain ⟨r1, hr7, hF⟩ := bind_some hF
      refine W_cut (fun l w => ∃ x7 : Bool, x7 = r1 ∧ l = [(0, u1), (9, v5), (41, (.bool x7))] ∧ Below w9.heap.size w9 w ∧ Ctx [] w0 w [Item.own v5 (x4 : (List Int))]) ?_ ?_
      · refine W_reg ?_
        refine WL_move rfl rfl ?_
        refine WL_move rfl rfl ?_
        refine WL_neq rfl rfl rfl ?_
        refine WL_move rfl rfl ?_
        refine WL_fork (fun hc2 => ?_) (fun hc2 => ?_)
        · replace hr7 := ite_t hr7 hc2
          refine WL_guard_skip rfl rfl (by simp) rfl ?_
          refine WL_guard_skip rfl rfl (by simp) rfl ?_
          refine WL_guard_skip rfl rfl (by simp) rfl ?_
          refine WL_pick_t rfl rfl rfl ?_
          refine WL_nil ?_
          have hq2 := Option.some.inj hr7
          subst hq2
          have hC8 := hC6.headN 1
          dsimp only [List.take] at hC8
          refine nrm_sub (l' := [(0, u1), (9, v5), (41, (.bool true))]) ⟨rfl, rfl, rfl, trivial⟩ ?_
          exact ⟨true, rfl, rfl, (Below.refl _ _), hC8⟩
        · replace hr7 := ite_f hr7 hc2
          refine WL_guard rfl rfl ?_
          refine WL_move rfl rfl ?_
          refine WL_guard rfl rfl ?_
          refine WL_move rfl rfl ?_
          refine WL_guard rfl rfl ?_
          refine WL_bool_neq Try.underlying4 rfl rfl rfl ?_
          refine WL_pick_f rfl rfl rfl ?_
          refine WL_nil ?_
          have hq3 := Option.some.inj hr7
          subst hq3
          have hC9 := hC6.headN 1
          dsimp only [List.take] at hC9
          refine nrm_sub (l' := [(0, u1), (9, v5), (41, (.bool (!decide (x6.2 = x3.2))))]) ⟨rfl, rfl, rfl, trivial⟩ ?_
          exact ⟨(!decide (x6.2 = x3.2)), rfl, rfl, (Below.refl _ _), hC9⟩
      · rintro _ w10 ⟨x7, rfl, rfl, hB10, hC7⟩
        try dsimp only at hF
        refine W_cond rfl (fun hc3 => ?_) (fun hc3 => ?_)
        · replace hF := ite_t hF hc3
          refine W_seq_reg ?_
          refine WL_assign rfl rfl ?_
          refine WL_nil ?_
          refine W_ret ?_
          refine nrm_ret ?_
          have hq4 := Option.some.inj hF
          subst hq4
          refine fn_ret1 rfl rfl ?_
          exact ⟨_, rfl, bool_res hC7 _⟩
        · replace hF := ite_f hF hc3
          refine W_skip ?_
          refine nrm_normal ?_
          refine W_seq ?_
          refine W_seq_reg ?_
          refine WL_move rfl rfl ?_
          refine WL_move rfl rfl ?_
          obtain ⟨x8, hr8, hF⟩ := bind_some hF
          refine WL_call Try.call27 rfl rfl (c_Q_toIntS a1 u1 (g1.now hC7.keep) x8 hr8) ?_
          rintro v9 w11 ⟨hB11, F9, hv10, hn8, hb8⟩
          have hC10 := hC7.push hB11 (A := Item.own v9 x8) hv10 hn8 hb8
          obtain ⟨x9, hr9, hF⟩ := bind_some hF
          refine WL_call Try.call30 rfl rfl (c_Q_eqIntS x4 v5 ((hC10.ro 1 rfl).now (Keep.refl _ _)) x8 v9 ((hC10.ro 0 rfl).now (Keep.refl _ _)) x9 hr9) ?_
          intro _ w12 hv11
          obtain ⟨rfl, hB12⟩ := res_bool hv11
          have hC11 := hC10.grow hB12
          refine WL_not rfl rfl ?_
          refine WL_nil ?_
          refine W_cond rfl (fun hc4 => ?_) (fun hc4 => ?_)
          · replace hF := ite_t hF hc4
            refine W_seq_reg ?_
            refine WL_assign rfl rfl ?_
            refine WL_nil ?_
            refine W_ret ?_
            refine nrm_ret ?_
            have hq5 := Option.some.inj hF
            subst hq5
            refine fn_ret1 rfl rfl ?_
            exact ⟨_, rfl, bool_res hC11 _⟩
          · replace hF := ite_f hF hc4
            refine W_skip ?_
            refine nrm_normal ?_
            refine W_seq_reg ?_
            refine WL_assign rfl rfl ?_
            refine WL_nil ?_
            refine W_ret ?_
            have hq6 := Option.some.inj hF
            subst hq6
            refine fn_ret1 rfl rfl ?_
            exact ⟨_, rfl, bool_res hC11 _⟩

end Go.Gx.Px
