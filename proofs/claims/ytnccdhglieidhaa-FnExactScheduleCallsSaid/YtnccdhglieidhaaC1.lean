/- The contracts of the Go functions against the pure functions, printed by program. Conditions: each says them. -/
import Derived.Test.YtnccdhglieidhaaTy
import Derived.Test.YtnccdhglieidhaaPure
set_option linter.unusedVariables false
set_option linter.unusedSimpArgs false
set_option maxRecDepth 100000
namespace Go.Gx.Px
open Go.Proofs Go.RowKit

theorem c_Q_toWindow {w0 : World} (a1 : (Int × Int)) (rr : (Int × Int)) (hF : Q.toWindow a1 = some rr) :
    Calls Try.prog 28 [(.agg #[(.int .i64 a1.1), (.int .i64 a1.2)])].toArray w0 fun e w' => ∃ v, e = .returned v ∧ Res w0 rr v w' := by
  refine calls_of_W Try.func28 rfl rfl ?_
  have hC0 := Ctx.start w0
  unfold Q.toWindow at hF
  refine W_seq_reg ?_
  refine WL_box (cs := [(.int .i64 a1.1), (.int .i64 a1.2)]) hC0 rfl rfl rfl (fun b1 w1 hC1 hB1 => ?_)
  refine WL_alloc hC1 zero41 rfl rfl (fun b2 w2 hC2 hB2 => ?_)
  refine WL_nil ?_
  refine W_seq_reg ?_
  refine WL_alloc hC2 zero41 rfl rfl (fun b3 w3 hC3 hB3 => ?_)
  refine WL_nil ?_
  refine W_seq_reg ?_
  refine WL_field Try.underlying37 rfl rfl (fun w => ⟨_, Try.sizeOf3 w⟩) rfl rfl ?_
  refine WL_load_box hC3 2 rfl rfl Try.isAgg3 rfl rfl ?_
  refine WL_field Try.underlying41 rfl rfl (fun w => ⟨_, Try.sizeOf3 w⟩) rfl rfl ?_
  refine WL_store_box (cs' := [(.int .i64 a1.1), (.int .i64 0)]) hC3 0 rfl rfl rfl rfl Try.sizeOf3 rfl rfl (fun w4 hC4 => ?_)
  try dsimp only [List.set] at hC4
  refine WL_nil ?_
  refine W_seq_reg ?_
  refine WL_field Try.underlying37 rfl rfl (fun w => ⟨_, Try.sizeOf3 w⟩) rfl rfl ?_
  refine WL_load_box hC4 2 rfl rfl Try.isAgg3 rfl rfl ?_
  refine WL_field Try.underlying41 rfl rfl (fun w => ⟨_, Try.sizeOf3 w⟩) rfl rfl ?_
  refine WL_store_box (cs' := [(.int .i64 a1.1), (.int .i64 a1.2)]) hC4 0 rfl rfl rfl rfl Try.sizeOf3 rfl rfl (fun w5 hC5 => ?_)
  try dsimp only [List.set] at hC5
  refine WL_nil ?_
  refine W_seq_reg ?_
  refine WL_load_box_agg [(.int .i64 a1.1), (.int .i64 a1.2)] hC5 0 rfl rfl rfl Try.isAgg41 Try.sizeOf41 rfl rfl ?_
  refine WL_store_box_agg (cs' := [(.int .i64 a1.1), (.int .i64 a1.2)]) (new := [(.int .i64 a1.1), (.int .i64 a1.2)]) hC5 1 rfl rfl (by intro v hv; simp only [List.mem_cons, List.not_mem_nil, or_false] at hv; rcases hv with rfl | rfl; exact rfl; exact rfl) rfl Try.sizeOf41 rfl rfl (fun w6 hC6 => ?_)
  try dsimp only [List.set] at hC6
  refine WL_nil ?_
  refine W_ret ?_
  have hq1 := Option.some.inj hF
  subst hq1
  refine fn_retG1 rfl (rv_cell_agg (cs' := [(.int .i64 a1.1), (.int .i64 a1.2)]) hC6 (i := 1) rfl rfl rfl Try.isAgg41 Try.sizeOf41 rfl) ?_
  have hC7 := own_st41 a1.1 a1.2 hC6
  exact ⟨_, rfl, own_res hC7 0 rfl⟩

theorem c_Q_eqIntS {w0 : World} (a1 : (List Int)) (u1 : Value) (g1 : RO [] w0 u1 a1) (a2 : (List Int)) (u2 : Value) (g2 : RO [] w0 u2 a2) (rr : Bool) (hF : Q.eqIntS a1 a2 = some rr) :
    Calls Try.prog 30 [u1, u2].toArray w0 fun e w' => ∃ v, e = .returned v ∧ Res w0 rr v w' := by
  refine calls_of_W Try.func30 rfl rfl ?_
  have hC0 := Ctx.start w0
  unfold Q.eqIntS at hF
  refine W_seq_reg ?_
  refine WL_assign rfl rfl ?_
  refine WL_nil ?_
  refine W_seq ?_
  refine W_seq_reg ?_
  refine WL_move rfl rfl ?_
  refine WL_len Try.underlying27 g1 rfl rfl ?_
  refine WL_move rfl rfl ?_
  refine WL_len Try.underlying27 g2 rfl rfl ?_
  refine WL_neq rfl rfl rfl ?_
  refine WL_nil ?_
  refine W_cond rfl (fun hc1 => ?_) (fun hc1 => ?_)
  · replace hF := ite_t hF hc1
    refine W_seq_reg ?_
    refine WL_assign rfl rfl ?_
    refine WL_nil ?_
    refine W_ret ?_
    refine nrm_ret ?_
    have hq1 := Option.some.inj hF
    subst hq1
    refine fn_ret1 rfl rfl ?_
    exact ⟨_, rfl, bool_res hC0 _⟩
  · replace hF := ite_f hF hc1
    refine W_skip ?_
    refine nrm_normal ?_
    refine W_seq ?_
    refine W_seq_reg ?_
    refine WL_assign rfl rfl ?_
    refine WL_nil ?_
    obtain ⟨r1, hr1, hF⟩ := bind_some hF
    refine W_norm (fun l w => .inl () = r1 ∧ l = [] ∧ Below w0.heap.size w0 w ∧ Ctx [] w0 w []) ?_ ?_
    · refine W_block ?_
      refine W.sub (l' := [(0, u1), (1, u2), (5, (.int .i64 0))]) ?_ ⟨rfl, rfl, rfl, trivial⟩
      refine W_loop (fun k l w => ∃ x1 : Int, l = [(0, u1), (1, u2), (5, (.int .i64 x1))] ∧ Below w0.heap.size w0 w ∧ Ctx [] w0 w [] ∧ Q.eqIntS_l1 a1 a2 k x1 = some r1) FUEL ⟨0, rfl, (Below.refl _ _), hC0, hr1⟩ ?_
      clear hr1
      rintro k1 _ w1 ⟨x1, rfl, hB1, hC1, hL1⟩
      cases k1 with
      | zero => rw [Q.eqIntS_l1] at hL1; cases hL1
      | succ k1 =>
        rw [Q.eqIntS_l1] at hL1
        refine W_seq ?_
        refine W_seq_reg ?_
        refine WL_move rfl rfl ?_
        refine WL_move rfl rfl ?_
        refine WL_len Try.underlying27 g1 rfl rfl ?_
        refine WL_lss rfl rfl rfl ?_
        refine WL_nil ?_
        refine W_cond rfl (fun hc2 => ?_) (fun hc2 => ?_)
        · replace hL1 := ite_t hL1 hc2
          refine W_skip ?_
          refine nrm_normal ?_
          refine W_seq ?_
          refine W_block ?_
          refine W_seq ?_
          refine W_drawn 9 rfl hmix (fun w2 hB2 => ?_)
          have hC2 := hC1.grow hB2
          refine WA_take 0 rfl (by kernel_rfl) (by kernel_rfl) (by kernel_rfl) rfl (fl_move rfl) ?_
          refine WL_move rfl rfl ?_
          refine WL_nil ?_
          refine WA_take 1 rfl (by kernel_rfl) (by kernel_rfl) (by kernel_rfl) rfl (fl_move rfl) ?_
          refine WL_move rfl rfl ?_
          refine WL_nil ?_
          obtain ⟨x2, hx1, hL1⟩ := bind_some hL1
          refine WA_take 2 rfl (by kernel_rfl) (by kernel_rfl) (by kernel_rfl) rfl (fl_index Try.underlying27 ty3 g1 hx1 rfl rfl) ?_
          refine WL_index Try.underlying27 ty3 g1 hx1 rfl rfl rfl (fun b1 o1 h1 => ?_)
          refine WL_nil ?_
          refine WA_take 4 rfl (by kernel_rfl) (by kernel_rfl) (by kernel_rfl) rfl (fl_move rfl) ?_
          refine WL_move rfl rfl ?_
          refine WL_nil ?_
          refine WA_take 5 rfl (by kernel_rfl) (by kernel_rfl) (by kernel_rfl) rfl (fl_move rfl) ?_
          refine WL_move rfl rfl ?_
          refine WL_nil ?_
          obtain ⟨x3, hx2, hL1⟩ := bind_some hL1
          refine WA_take 6 rfl (by kernel_rfl) (by kernel_rfl) (by kernel_rfl) rfl (fl_index Try.underlying27 ty3 g2 hx2 rfl rfl) ?_
          refine WL_index Try.underlying27 ty3 g2 hx2 rfl rfl rfl (fun b2 o2 h2 => ?_)
          refine WL_nil ?_
          refine WA.sub (l' := [(0, u1), (1, u2), (5, (.int .i64 x1)), (11, (.int .i64 x1)), (12, u1), (13, (.int .i64 (List.length a1 : Int))), (14, (.bool (decide (x1 < (List.length a1 : Int))))), (17, u1), (18, (.int .i64 x1)), (19, (ptr b1 o1)), (21, u2), (22, (.int .i64 x1)), (23, (ptr b2 o2))]) ?_ ⟨rfl, rfl, rfl, rfl, rfl, rfl, rfl, rfl, rfl, rfl, rfl, rfl, rfl, trivial⟩
          refine WA_postsE [⟨3, [], fun vs => PW.val (.int .i64 x2), []⟩, ⟨7, [], fun vs => PW.val (.int .i64 x3), []⟩] [[], []] 1 rfl (by kernel_rfl) (by kernel_rfl) rfl ?_ ?_
          · refine StepsE_cons rfl ?_ ?_
            · intro w3 hB3
              refine DepsE_nil ?_
              refine ⟨_, rfl, ?_⟩
              refine WL_load ty3 h1 (hC2.keep.then hB3) rfl rfl (fun v1 h3 => ?_)
              obtain rfl := ro_int h3
              refine WL_nil ?_
              exact FinE_val (Below.refl _ _) rfl rfl ⟨rfl, rfl⟩
            refine StepsE_cons rfl ?_ ?_
            · intro w3 hB3
              refine DepsE_nil ?_
              refine ⟨_, rfl, ?_⟩
              refine WL_load ty3 h2 (hC2.keep.then hB3) rfl rfl (fun v2 h4 => ?_)
              obtain rfl := ro_int h4
              refine WL_nil ?_
              exact FinE_val (Below.refl _ _) rfl rfl ⟨rfl, rfl⟩
            exact StepsE_nil
          · intro w4 hB4
            refine AllE_cons rfl rfl rfl ?_
            rintro _ _ ⟨rfl, rfl⟩
            refine AllE_cons rfl rfl rfl ?_
            rintro _ _ ⟨rfl, rfl⟩
            refine AllE_nil ?_
            intro hn1 hb1
            have hC3 := hC2.grow hB4
            refine WA_take 8 rfl (by kernel_rfl) (by kernel_rfl) (by kernel_rfl) rfl (fl_neq rfl rfl) ?_
            refine WL_neq rfl rfl rfl ?_
            refine WL_nil ?_
            refine WA_done (by kernel_rfl) ?_
            refine nrm_normal ?_
            refine W_cond rfl (fun hc3 => ?_) (fun hc3 => ?_)
            · replace hL1 := ite_t hL1 hc3
              refine W_seq_reg ?_
              refine WL_assign rfl rfl ?_
              refine WL_nil ?_
              refine W_ret ?_
              refine blk_ret ?_
              refine nrm_ret ?_
              refine nrm_ret ?_
              refine blk_ret ?_
              refine nrm_ret ?_
              refine nrm_ret ?_
              have hq2 := Option.some.inj hL1
              subst hq2
              dsimp only at hF
              have hq3 := Option.some.inj hF
              subst hq3
              refine fn_ret1 rfl rfl ?_
              exact ⟨_, rfl, bool_res hC3 _⟩
            · replace hL1 := ite_f hL1 hc3
              refine W_skip ?_
              refine blk_normal ?_
              refine nrm_normal ?_
              refine W_reg ?_
              refine WL_move rfl rfl ?_
              refine WL_add rfl rfl rfl ?_
              refine WL_assign rfl rfl ?_
              refine WL_nil ?_
              refine nrm_sub (l' := [(0, u1), (1, u2), (5, (.int .i64 (w64 (x1 + 1))))]) ⟨rfl, rfl, rfl, trivial⟩ ?_
              exact ⟨k1, Nat.lt_succ_self _, w64 (x1 + 1), rfl, (((Keep.of hB1).then hB2).then hB4).below, hC3, hL1⟩
        · replace hL1 := ite_f hL1 hc2
          refine W_exit ?_
          refine nrm_exit ?_
          refine nrm_exit ?_
          refine blk_exit ?_
          have hq4 := Option.some.inj hL1
          subst hq4
          refine nrm_sub (l' := []) trivial ?_
          exact ⟨rfl, rfl, (Keep.of hB1).below, hC1⟩
    · rintro l2 _ w5 hs2 ⟨rfl, rfl, hB5, hC4⟩
      try dsimp only at hF
      refine nrm_sub' hs2 ?_
      clear hs2
      refine W_seq_reg ?_
      refine WL_assign rfl rfl ?_
      refine WL_nil ?_
      refine W_ret ?_
      have hq5 := Option.some.inj hF
      subst hq5
      refine fn_ret1 rfl rfl ?_
      exact ⟨_, rfl, bool_res hC4 _⟩

theorem c_S_CallsIn {w0 : World} (a1 : (List Int)) (u1 : Value) (g1 : RO [] w0 u1 a1) (a2 : Int) (a3 : Int) (rr : Int) (hF : S.CallsIn a1 a2 a3 = some rr) :
    Calls Try.prog 57 [u1, (.int .i64 a2), (.int .i64 a3)].toArray w0 fun e w' => ∃ v, e = .returned v ∧ Res w0 rr v w' := by
  refine calls_of_W Try.func57 rfl rfl ?_
  have hC0 := Ctx.start w0
  unfold S.CallsIn at hF
  refine W_seq_reg ?_
  refine WL_assign rfl rfl ?_
  refine WL_nil ?_
  refine W_seq_reg ?_
  refine WL_assign rfl rfl ?_
  refine WL_nil ?_
  refine W_seq ?_
  refine W_seq_reg ?_
  refine WL_assign rfl rfl ?_
  refine WL_nil ?_
  obtain ⟨r1, hr1, hF⟩ := bind_some hF
  refine W_norm (fun l w => ∃ x3 : Int, x3 = r1 ∧ l = [(7, (.int .i64 x3))] ∧ Below w0.heap.size w0 w ∧ Ctx [] w0 w []) ?_ ?_
  · refine W_block ?_
    refine W.sub (l' := [(0, u1), (1, (.int .i64 a2)), (2, (.int .i64 a3)), (7, (.int .i64 0)), (8, (.int .i64 0))]) ?_ ⟨rfl, rfl, rfl, rfl, rfl, trivial⟩
    refine W_loop (fun k l w => ∃ x1 : Int, ∃ x2 : Int, l = [(0, u1), (1, (.int .i64 a2)), (2, (.int .i64 a3)), (7, (.int .i64 x1)), (8, (.int .i64 x2))] ∧ Below w0.heap.size w0 w ∧ Ctx [] w0 w [] ∧ S.CallsIn_l1 a1 a2 a3 k x1 x2 = some r1) FUEL ⟨0, 0, rfl, (Below.refl _ _), hC0, hr1⟩ ?_
    clear hr1
    rintro k1 _ w1 ⟨x1, x2, rfl, hB1, hC1, hL1⟩
    cases k1 with
    | zero => rw [S.CallsIn_l1] at hL1; cases hL1
    | succ k1 =>
      rw [S.CallsIn_l1] at hL1
      refine W_seq ?_
      refine W_seq_reg ?_
      refine WL_move rfl rfl ?_
      refine WL_move rfl rfl ?_
      refine WL_len Try.underlying27 g1 rfl rfl ?_
      refine WL_lss rfl rfl rfl ?_
      refine WL_nil ?_
      refine W_cond rfl (fun hc1 => ?_) (fun hc1 => ?_)
      · replace hL1 := ite_t hL1 hc1
        refine W_skip ?_
        refine nrm_normal ?_
        refine W_seq ?_
        refine W_block ?_
        obtain ⟨r2, hr2, hL1⟩ := bind_some hL1
        refine W_cut (fun l w => ∃ x4 : Bool, x4 = r2 ∧ l = [(0, u1), (1, (.int .i64 a2)), (2, (.int .i64 a3)), (7, (.int .i64 x1)), (8, (.int .i64 x2)), (41, (.bool x4))] ∧ Below w1.heap.size w1 w ∧ Ctx [] w0 w []) ?_ ?_
        · refine W_reg ?_
          refine WL_move rfl rfl ?_
          refine WL_move rfl rfl ?_
          obtain ⟨x5, hx1, hr2⟩ := bind_some hr2
          refine WL_index Try.underlying27 ty3 g1 hx1 rfl rfl rfl (fun b1 o1 h1 => ?_)
          refine WL_load ty3 h1 hC1.keep rfl rfl (fun v1 h2 => ?_)
          obtain rfl := ro_int h2
          refine WL_move rfl rfl ?_
          refine WL_geq rfl rfl rfl ?_
          refine WL_move rfl rfl ?_
          refine WL_fork (fun hc2 => ?_) (fun hc2 => ?_)
          · replace hr2 := ite_t hr2 hc2
            refine WL_guard rfl rfl ?_
            refine WL_move rfl rfl ?_
            refine WL_guard rfl rfl ?_
            refine WL_move rfl rfl ?_
            obtain ⟨x6, hx2, hr2⟩ := bind_some hr2
            refine WL_guard rfl rfl ?_
            refine WL_index Try.underlying27 ty3 g1 hx2 rfl rfl rfl (fun b2 o2 h3 => ?_)
            refine WL_guard rfl rfl ?_
            refine WL_load ty3 h3 hC1.keep rfl rfl (fun v2 h4 => ?_)
            obtain rfl := ro_int h4
            refine WL_guard rfl rfl ?_
            refine WL_move rfl rfl ?_
            refine WL_guard rfl rfl ?_
            refine WL_sub rfl rfl rfl ?_
            refine WL_guard rfl rfl ?_
            refine WL_move rfl rfl ?_
            refine WL_guard rfl rfl ?_
            refine WL_lss rfl rfl rfl ?_
            refine WL_pick_t rfl rfl rfl ?_
            refine WL_move rfl rfl ?_
            refine WL_fork (fun hc3 => ?_) (fun hc3 => ?_)
            · replace hr2 := ite_t hr2 hc3
              refine WL_guard rfl rfl ?_
              refine WL_move rfl rfl ?_
              refine WL_guard rfl rfl ?_
              refine WL_move rfl rfl ?_
              obtain ⟨x7, hx3, hr2⟩ := bind_some hr2
              refine WL_guard rfl rfl ?_
              refine WL_index Try.underlying27 ty3 g1 hx3 rfl rfl rfl (fun b3 o3 h5 => ?_)
              refine WL_guard rfl rfl ?_
              refine WL_load ty3 h5 hC1.keep rfl rfl (fun v3 h6 => ?_)
              obtain rfl := ro_int h6
              refine WL_guard rfl rfl ?_
              refine WL_geq rfl rfl rfl ?_
              refine WL_pick_t rfl rfl rfl ?_
              refine WL_move rfl rfl ?_
              refine WL_fork (fun hc4 => ?_) (fun hc4 => ?_)
              · replace hr2 := ite_t hr2 hc4
                refine WL_guard rfl rfl ?_
                refine WL_move rfl rfl ?_
                refine WL_guard rfl rfl ?_
                refine WL_geq rfl rfl rfl ?_
                refine WL_pick_t rfl rfl rfl ?_
                refine WL_nil ?_
                have hq1 := Option.some.inj hr2
                subst hq1
                refine nrm_sub (l' := [(0, u1), (1, (.int .i64 a2)), (2, (.int .i64 a3)), (7, (.int .i64 x1)), (8, (.int .i64 x2)), (41, (.bool (decide (0 ≤ a2))))]) ⟨rfl, rfl, rfl, rfl, rfl, rfl, trivial⟩ ?_
                exact ⟨(decide (0 ≤ a2)), rfl, rfl, (Below.refl _ _), hC1⟩
              · replace hr2 := ite_f hr2 hc4
                refine WL_guard_skip rfl rfl (by simp) rfl ?_
                refine WL_guard_skip rfl rfl (by simp) rfl ?_
                refine WL_pick_f rfl rfl rfl ?_
                refine WL_nil ?_
                have hq2 := Option.some.inj hr2
                subst hq2
                refine nrm_sub (l' := [(0, u1), (1, (.int .i64 a2)), (2, (.int .i64 a3)), (7, (.int .i64 x1)), (8, (.int .i64 x2)), (41, (.bool false))]) ⟨rfl, rfl, rfl, rfl, rfl, rfl, trivial⟩ ?_
                exact ⟨false, rfl, rfl, (Below.refl _ _), hC1⟩
            · replace hr2 := ite_f hr2 hc3
              refine WL_guard_skip rfl rfl (by simp) rfl ?_
              refine WL_guard_skip rfl rfl (by simp) rfl ?_
              refine WL_guard_skip rfl rfl (by simp) rfl ?_
              refine WL_guard_skip rfl rfl (by simp) rfl ?_
              refine WL_guard_skip rfl rfl (by simp) rfl ?_
              refine WL_pick_f rfl rfl rfl ?_
              refine WL_move rfl rfl ?_
              refine WL_guard_skip rfl rfl (by simp) rfl ?_
              refine WL_guard_skip rfl rfl (by simp) rfl ?_
              refine WL_pick_f rfl rfl rfl ?_
              refine WL_nil ?_
              have hq3 := Option.some.inj hr2
              subst hq3
              refine nrm_sub (l' := [(0, u1), (1, (.int .i64 a2)), (2, (.int .i64 a3)), (7, (.int .i64 x1)), (8, (.int .i64 x2)), (41, (.bool false))]) ⟨rfl, rfl, rfl, rfl, rfl, rfl, trivial⟩ ?_
              exact ⟨false, rfl, rfl, (Below.refl _ _), hC1⟩
          · replace hr2 := ite_f hr2 hc2
            refine WL_guard_skip rfl rfl (by simp) rfl ?_
            refine WL_guard_skip rfl rfl (by simp) rfl ?_
            refine WL_guard_skip rfl rfl (by simp) rfl ?_
            refine WL_guard_skip rfl rfl (by simp) rfl ?_
            refine WL_guard_skip rfl rfl (by simp) rfl ?_
            refine WL_guard_skip rfl rfl (by simp) rfl ?_
            refine WL_guard_skip rfl rfl (by simp) rfl ?_
            refine WL_guard_skip rfl rfl (by simp) rfl ?_
            refine WL_pick_f rfl rfl rfl ?_
            refine WL_move rfl rfl ?_
            refine WL_guard_skip rfl rfl (by simp) rfl ?_
            refine WL_guard_skip rfl rfl (by simp) rfl ?_
            refine WL_guard_skip rfl rfl (by simp) rfl ?_
            refine WL_guard_skip rfl rfl (by simp) rfl ?_
            refine WL_guard_skip rfl rfl (by simp) rfl ?_
            refine WL_pick_f rfl rfl rfl ?_
            refine WL_move rfl rfl ?_
            refine WL_guard_skip rfl rfl (by simp) rfl ?_
            refine WL_guard_skip rfl rfl (by simp) rfl ?_
            refine WL_pick_f rfl rfl rfl ?_
            refine WL_nil ?_
            have hq4 := Option.some.inj hr2
            subst hq4
            refine nrm_sub (l' := [(0, u1), (1, (.int .i64 a2)), (2, (.int .i64 a3)), (7, (.int .i64 x1)), (8, (.int .i64 x2)), (41, (.bool false))]) ⟨rfl, rfl, rfl, rfl, rfl, rfl, trivial⟩ ?_
            exact ⟨false, rfl, rfl, (Below.refl _ _), hC1⟩
        · rintro _ w2 ⟨x4, rfl, rfl, hB2, hC2⟩
          try dsimp only at hL1
          obtain ⟨r3, hr3, hL1⟩ := bind_some hL1
          refine W_norm (fun l w => ∃ x8 : Int, x8 = r3 ∧ l = [(0, u1), (1, (.int .i64 a2)), (2, (.int .i64 a3)), (7, (.int .i64 x8)), (8, (.int .i64 x2))] ∧ Below w2.heap.size w2 w ∧ Ctx [] w0 w []) ?_ ?_
          · refine W_cond rfl (fun hc5 => ?_) (fun hc5 => ?_)
            · replace hr3 := ite_t hr3 hc5
              refine W_reg ?_
              refine WL_move rfl rfl ?_
              refine WL_add rfl rfl rfl ?_
              refine WL_assign rfl rfl ?_
              refine WL_nil ?_
              have hq5 := Option.some.inj hr3
              subst hq5
              refine nrm_sub (l' := [(0, u1), (1, (.int .i64 a2)), (2, (.int .i64 a3)), (7, (.int .i64 (w64 (x1 + 1)))), (8, (.int .i64 x2))]) ⟨rfl, rfl, rfl, rfl, rfl, trivial⟩ ?_
              exact ⟨w64 (x1 + 1), rfl, rfl, (Below.refl _ _), hC2⟩
            · replace hr3 := ite_f hr3 hc5
              refine W_skip ?_
              have hq6 := Option.some.inj hr3
              subst hq6
              refine nrm_sub (l' := [(0, u1), (1, (.int .i64 a2)), (2, (.int .i64 a3)), (7, (.int .i64 x1)), (8, (.int .i64 x2))]) ⟨rfl, rfl, rfl, rfl, rfl, trivial⟩ ?_
              exact ⟨x1, rfl, rfl, (Below.refl _ _), hC2⟩
          · rintro l3 _ w3 hs3 ⟨x8, rfl, rfl, hB3, hC3⟩
            try dsimp only at hL1
            refine blk_normal ?_
            refine nrm_sub' hs3 ?_
            clear hs3
            refine W_reg ?_
            refine WL_move rfl rfl ?_
            refine WL_add rfl rfl rfl ?_
            refine WL_assign rfl rfl ?_
            refine WL_nil ?_
            refine nrm_sub (l' := [(0, u1), (1, (.int .i64 a2)), (2, (.int .i64 a3)), (7, (.int .i64 x8)), (8, (.int .i64 (w64 (x2 + 1))))]) ⟨rfl, rfl, rfl, rfl, rfl, trivial⟩ ?_
            exact ⟨k1, Nat.lt_succ_self _, x8, w64 (x2 + 1), rfl, (((Keep.of hB1).then hB2).then hB3).below, hC3, hL1⟩
      · replace hL1 := ite_f hL1 hc1
        refine W_exit ?_
        refine nrm_exit ?_
        refine nrm_exit ?_
        refine blk_exit ?_
        have hq7 := Option.some.inj hL1
        subst hq7
        refine nrm_sub (l' := [(7, (.int .i64 x1))]) ⟨rfl, trivial⟩ ?_
        exact ⟨x1, rfl, rfl, (Keep.of hB1).below, hC1⟩
  · rintro l4 _ w4 hs4 ⟨x3, rfl, rfl, hB4, hC4⟩
    try dsimp only at hF
    refine nrm_sub' hs4 ?_
    clear hs4
    refine W_seq_reg ?_
    refine WL_move rfl rfl ?_
    refine WL_assign rfl rfl ?_
    refine WL_nil ?_
    refine W_ret ?_
    have hq8 := Option.some.inj hF
    subst hq8
    refine fn_ret1 rfl rfl ?_
    exact ⟨_, rfl, int_res hC4 _⟩

theorem c_S_l1In {w0 : World} (a1 : Int) (a2 : Int) (a3 : Int) (rr : Bool) (hF : S.l1In a1 a2 a3 = some rr) :
    Calls Try.prog 79 [(.int .i64 a1), (.int .i64 a2), (.int .i64 a3)].toArray w0 fun e w' => ∃ v, e = .returned v ∧ Res w0 rr v w' := by
  refine calls_of_W Try.func79 rfl rfl ?_
  have hC0 := Ctx.start w0
  unfold S.l1In at hF
  refine W_seq_reg ?_
  refine WL_assign rfl rfl ?_
  refine WL_nil ?_
  obtain ⟨r1, hr1, hF⟩ := bind_some hF
  refine W_cut (fun l w => ∃ x1 : Bool, x1 = r1 ∧ l = [(6, (.bool x1))] ∧ Below w0.heap.size w0 w ∧ Ctx [] w0 w []) ?_ ?_
  · refine W_reg ?_
    refine WL_move rfl rfl ?_
    refine WL_move rfl rfl ?_
    refine WL_geq rfl rfl rfl ?_
    refine WL_move rfl rfl ?_
    refine WL_fork (fun hc1 => ?_) (fun hc1 => ?_)
    · replace hr1 := ite_t hr1 hc1
      refine WL_guard rfl rfl ?_
      refine WL_move rfl rfl ?_
      refine WL_guard rfl rfl ?_
      refine WL_move rfl rfl ?_
      refine WL_guard rfl rfl ?_
      refine WL_leq rfl rfl rfl ?_
      refine WL_pick_t rfl rfl rfl ?_
      refine WL_assign rfl rfl ?_
      refine WL_nil ?_
      have hq1 := Option.some.inj hr1
      subst hq1
      refine nrm_sub (l' := [(6, (.bool (decide (a1 ≤ a3))))]) ⟨rfl, trivial⟩ ?_
      exact ⟨(decide (a1 ≤ a3)), rfl, rfl, (Below.refl _ _), hC0⟩
    · replace hr1 := ite_f hr1 hc1
      refine WL_guard_skip rfl rfl (by simp) rfl ?_
      refine WL_guard_skip rfl rfl (by simp) rfl ?_
      refine WL_guard_skip rfl rfl (by simp) rfl ?_
      refine WL_pick_f rfl rfl rfl ?_
      refine WL_assign rfl rfl ?_
      refine WL_nil ?_
      have hq2 := Option.some.inj hr1
      subst hq2
      refine nrm_sub (l' := [(6, (.bool false))]) ⟨rfl, trivial⟩ ?_
      exact ⟨false, rfl, rfl, (Below.refl _ _), hC0⟩
  · rintro _ w1 ⟨x1, rfl, rfl, hB1, hC1⟩
    try dsimp only at hF
    refine W_ret ?_
    have hq3 := Option.some.inj hF
    subst hq3
    refine fn_ret1 rfl rfl ?_
    exact ⟨_, rfl, bool_res hC1 _⟩

theorem c_S_IsWindow {w0 : World} (a1 : (Int × Int)) (rr : Bool) (hF : S.IsWindow a1 = some rr) :
    Calls Try.prog 64 [(.agg #[(.int .i64 a1.1), (.int .i64 a1.2)])].toArray w0 fun e w' => ∃ v, e = .returned v ∧ Res w0 rr v w' := by
  refine calls_of_W Try.func64 rfl rfl ?_
  have hC0 := Ctx.start w0
  unfold S.IsWindow at hF
  refine W_seq_reg ?_
  refine WL_box (cs := [(.int .i64 a1.1), (.int .i64 a1.2)]) hC0 rfl rfl rfl (fun b1 w1 hC1 hB1 => ?_)
  refine WL_assign rfl rfl ?_
  refine WL_nil ?_
  obtain ⟨r1, hr1, hF⟩ := bind_some hF
  refine W_cut (fun l w => ∃ x1 : Bool, x1 = r1 ∧ l = [(2, (.bool x1))] ∧ Below w1.heap.size w1 w ∧ Ctx [] w0 w []) ?_ ?_
  · refine W_reg ?_
    refine WL_field Try.underlying41 rfl rfl (fun w => ⟨_, Try.sizeOf3 w⟩) rfl rfl ?_
    refine WL_load_box hC1 0 rfl rfl Try.isAgg3 rfl rfl ?_
    obtain ⟨x2, hr2, hr1⟩ := bind_some hr1
    refine WL_call Try.call79 rfl rfl (c_S_l1In a1.1 1 100 x2 hr2) ?_
    intro _ w3 hv1
    obtain ⟨rfl, hB3⟩ := res_bool hv1
    have hC3 := hC1.grow hB3
    refine WL_move rfl rfl ?_
    refine WL_fork (fun hc1 => ?_) (fun hc1 => ?_)
    · replace hr1 := ite_t hr1 hc1
      refine WL_guard rfl rfl ?_
      refine WL_field Try.underlying41 rfl rfl (fun w => ⟨_, Try.sizeOf3 w⟩) rfl rfl ?_
      refine WL_guard rfl rfl ?_
      refine WL_load_box hC3 0 rfl rfl Try.isAgg3 rfl rfl ?_
      obtain ⟨x3, hr3, hr1⟩ := bind_some hr1
      refine WL_guard rfl rfl ?_
      refine WL_call Try.call79 rfl rfl (c_S_l1In a1.2 1 99 x3 hr3) ?_
      intro _ w4 hv2
      obtain ⟨rfl, hB4⟩ := res_bool hv2
      have hC4 := hC3.grow hB4
      refine WL_pick_t rfl rfl rfl ?_
      refine WL_assign rfl rfl ?_
      refine WL_nil ?_
      have hq1 := Option.some.inj hr1
      subst hq1
      have hC5 : Ctx [] w0 _ [] := hC4.headN 0
      refine nrm_sub (l' := [(2, (.bool x3))]) ⟨rfl, trivial⟩ ?_
      exact ⟨x3, rfl, rfl, ((Keep.of hB3).then hB4).below, hC5⟩
    · replace hr1 := ite_f hr1 hc1
      refine WL_guard_skip rfl rfl (by simp) rfl ?_
      refine WL_guard_skip rfl rfl (by simp) rfl ?_
      refine WL_guard_skip rfl rfl (by simp) rfl ?_
      refine WL_pick_f rfl rfl rfl ?_
      refine WL_assign rfl rfl ?_
      refine WL_nil ?_
      have hq2 := Option.some.inj hr1
      subst hq2
      have hC6 : Ctx [] w0 _ [] := hC3.headN 0
      refine nrm_sub (l' := [(2, (.bool false))]) ⟨rfl, trivial⟩ ?_
      exact ⟨false, rfl, rfl, (Keep.of hB3).below, hC6⟩
  · rintro _ w2 ⟨x1, rfl, rfl, hB2, hC2⟩
    try dsimp only at hF
    refine W_ret ?_
    have hq3 := Option.some.inj hF
    subst hq3
    refine fn_ret1 rfl rfl ?_
    exact ⟨_, rfl, bool_res hC2 _⟩

theorem c_S_l18Times {w0 : World} (a1 : (List Int)) (u1 : Value) (g1 : RO [] w0 u1 a1) (rr : Bool) (hF : S.l18Times a1 = some rr) :
    Calls Try.prog 102 [u1].toArray w0 fun e w' => ∃ v, e = .returned v ∧ Res w0 rr v w' := by
  refine calls_of_W Try.func102 rfl rfl ?_
  have hC0 := Ctx.start w0
  unfold S.l18Times at hF
  refine W_seq_reg ?_
  refine WL_assign rfl rfl ?_
  refine WL_nil ?_
  refine W_seq ?_
  refine W_seq_reg ?_
  refine WL_assign rfl rfl ?_
  refine WL_nil ?_
  obtain ⟨r1, hr1, hF⟩ := bind_some hF
  refine W_norm (fun l w => .inl () = r1 ∧ l = [(0, u1)] ∧ Below w0.heap.size w0 w ∧ Ctx [] w0 w []) ?_ ?_
  · refine W_block ?_
    refine W.sub (l' := [(0, u1), (3, (.int .i64 0))]) ?_ ⟨rfl, rfl, trivial⟩
    refine W_loop (fun k l w => ∃ x1 : Int, l = [(0, u1), (3, (.int .i64 x1))] ∧ Below w0.heap.size w0 w ∧ Ctx [] w0 w [] ∧ S.l18Times_l1 a1 k x1 = some r1) FUEL ⟨0, rfl, (Below.refl _ _), hC0, hr1⟩ ?_
    clear hr1
    rintro k1 _ w1 ⟨x1, rfl, hB1, hC1, hL1⟩
    cases k1 with
    | zero => rw [S.l18Times_l1] at hL1; cases hL1
    | succ k1 =>
      rw [S.l18Times_l1] at hL1
      refine W_seq ?_
      refine W_seq_reg ?_
      refine WL_move rfl rfl ?_
      refine WL_move rfl rfl ?_
      refine WL_len Try.underlying27 g1 rfl rfl ?_
      refine WL_lss rfl rfl rfl ?_
      refine WL_nil ?_
      refine W_cond rfl (fun hc1 => ?_) (fun hc1 => ?_)
      · replace hL1 := ite_t hL1 hc1
        refine W_skip ?_
        refine nrm_normal ?_
        refine W_seq ?_
        refine W_block ?_
        obtain ⟨r2, hr2, hL1⟩ := bind_some hL1
        refine W_cut (fun l w => ∃ x2 : Bool, x2 = r2 ∧ l = [(0, u1), (3, (.int .i64 x1)), (31, (.bool x2))] ∧ Below w1.heap.size w1 w ∧ Ctx [] w0 w []) ?_ ?_
        · refine W_drawn 22 rfl hmix (fun w3 hB3 => ?_)
          have hC3 := hC1.grow hB3
          refine WA_take 0 rfl (by kernel_rfl) (by kernel_rfl) (by kernel_rfl) rfl (fl_move rfl) ?_
          refine WL_move rfl rfl ?_
          refine WL_nil ?_
          refine WA_take 1 rfl (by kernel_rfl) (by kernel_rfl) (by kernel_rfl) rfl (fl_move rfl) ?_
          refine WL_move rfl rfl ?_
          refine WL_nil ?_
          obtain ⟨x3, hx1, hr2⟩ := bind_some hr2
          refine WA_take 2 rfl (by kernel_rfl) (by kernel_rfl) (by kernel_rfl) rfl (fl_index Try.underlying27 ty3 g1 hx1 rfl rfl) ?_
          refine WL_index Try.underlying27 ty3 g1 hx1 rfl rfl rfl (fun b1 o1 h1 => ?_)
          refine WL_nil ?_
          refine WA_one 3 (by kernel_rfl) rfl ?_
          refine WL_load ty3 h1 hC3.keep rfl rfl (fun v1 h2 => ?_)
          obtain rfl := ro_int h2
          refine WL_nil ?_
          obtain ⟨x4, hr3, hr2⟩ := bind_some hr2
          refine WA_one 4 (by kernel_rfl) rfl ?_
          refine WL_call Try.call79 rfl rfl (c_S_l1In x3 0 10000 x4 hr3) ?_
          intro _ w4 hv1
          obtain ⟨rfl, hB4⟩ := res_bool hv1
          have hC4 := hC3.grow hB4
          refine WL_nil ?_
          refine WA_take 5 rfl (by kernel_rfl) (by kernel_rfl) (by kernel_rfl) rfl (fl_not rfl) ?_
          refine WL_not rfl rfl ?_
          refine WL_nil ?_
          refine WA_take 6 rfl (by kernel_rfl) (by kernel_rfl) (by kernel_rfl) rfl (fl_move rfl) ?_
          refine WL_move rfl rfl ?_
          refine WL_nil ?_
          refine WA_fork (fun hc2 => ?_) (fun hc2 => ?_)
          · replace hr2 := ite_t hr2 hc2
            refine WA_skip 7 rfl (by kernel_rfl) (by kernel_rfl) (by kernel_rfl) rfl rfl rfl (by simp) rfl rfl ?_
            refine WA_skip 8 rfl (by kernel_rfl) (by kernel_rfl) (by kernel_rfl) rfl rfl rfl (by simp) rfl rfl ?_
            refine WA_skip 9 rfl (by kernel_rfl) (by kernel_rfl) (by kernel_rfl) rfl rfl rfl (by simp) rfl rfl ?_
            refine WA_skip 10 rfl (by kernel_rfl) (by kernel_rfl) (by kernel_rfl) rfl rfl rfl (by simp [undef]) rfl rfl ?_
            refine WA_skip 11 rfl (by kernel_rfl) (by kernel_rfl) (by kernel_rfl) rfl rfl rfl (by simp [undef]) rfl rfl ?_
            refine WA_skip 12 rfl (by kernel_rfl) (by kernel_rfl) (by kernel_rfl) rfl rfl rfl (by simp [undef]) rfl rfl ?_
            refine WA_skip 13 rfl (by kernel_rfl) (by kernel_rfl) (by kernel_rfl) rfl rfl rfl (by simp [undef]) rfl rfl ?_
            refine WA_skip 14 rfl (by kernel_rfl) (by kernel_rfl) (by kernel_rfl) rfl rfl rfl (by simp [undef]) rfl rfl ?_
            refine WA_skip 15 rfl (by kernel_rfl) (by kernel_rfl) (by kernel_rfl) rfl rfl rfl (by simp [undef]) rfl rfl ?_
            refine WA_skip 16 rfl (by kernel_rfl) (by kernel_rfl) (by kernel_rfl) rfl rfl rfl (by simp [undef]) rfl rfl ?_
            refine WA_skip 17 rfl (by kernel_rfl) (by kernel_rfl) (by kernel_rfl) rfl rfl rfl (by simp [undef]) rfl rfl ?_
            refine WA_skip 18 rfl (by kernel_rfl) (by kernel_rfl) (by kernel_rfl) rfl rfl rfl (by simp [undef]) rfl rfl ?_
            refine WA_skip 19 rfl (by kernel_rfl) (by kernel_rfl) (by kernel_rfl) rfl rfl rfl (by simp [undef]) rfl rfl ?_
            refine WA_skip 20 rfl (by kernel_rfl) (by kernel_rfl) (by kernel_rfl) rfl rfl rfl (by simp) rfl rfl ?_
            refine WA_take 21 rfl (by kernel_rfl) (by kernel_rfl) (by kernel_rfl) rfl (fl_pick_t rfl rfl) ?_
            refine WL_pick_t rfl rfl rfl ?_
            refine WL_nil ?_
            refine WA_done (by kernel_rfl) ?_
            have hq1 := Option.some.inj hr2
            subst hq1
            refine nrm_sub (l' := [(0, u1), (3, (.int .i64 x1)), (31, (.bool true))]) ⟨rfl, rfl, rfl, trivial⟩ ?_
            exact ⟨true, rfl, rfl, ((Keep.of hB3).then hB4).below, hC4⟩
          · replace hr2 := ite_f hr2 hc2
            refine WA_takeG 7 rfl (by kernel_rfl) (by kernel_rfl) (by kernel_rfl) rfl rfl rfl (fl_move rfl) ?_
            refine WL_guard rfl rfl ?_
            refine WL_move rfl rfl ?_
            refine WL_nil ?_
            refine WA_takeG 8 rfl (by kernel_rfl) (by kernel_rfl) (by kernel_rfl) rfl rfl rfl (fl_gtr rfl rfl) ?_
            refine WL_guard rfl rfl ?_
            refine WL_gtr rfl rfl rfl ?_
            refine WL_nil ?_
            refine WA_takeG 9 rfl (by kernel_rfl) (by kernel_rfl) (by kernel_rfl) rfl rfl rfl (fl_move rfl) ?_
            refine WL_guard rfl rfl ?_
            refine WL_move rfl rfl ?_
            refine WL_nil ?_
            refine WA_fork (fun hc3 => ?_) (fun hc3 => ?_)
            · replace hr2 := ite_t hr2 hc3
              refine WA_takeG 10 rfl (by kernel_rfl) (by kernel_rfl) (by kernel_rfl) rfl rfl rfl (fl_move rfl) ?_
              refine WL_guard rfl rfl ?_
              refine WL_move rfl rfl ?_
              refine WL_nil ?_
              refine WA_takeG 11 rfl (by kernel_rfl) (by kernel_rfl) (by kernel_rfl) rfl rfl rfl (fl_move rfl) ?_
              refine WL_guard rfl rfl ?_
              refine WL_move rfl rfl ?_
              refine WL_nil ?_
              obtain ⟨x5, hx2, hr2⟩ := bind_some hr2
              refine WA_takeG 12 rfl (by kernel_rfl) (by kernel_rfl) (by kernel_rfl) rfl rfl rfl (fl_index Try.underlying27 ty3 g1 hx2 rfl rfl) ?_
              refine WL_guard rfl rfl ?_
              refine WL_index Try.underlying27 ty3 g1 hx2 rfl rfl rfl (fun b2 o2 h3 => ?_)
              refine WL_nil ?_
              refine WA_takeG 14 rfl (by kernel_rfl) (by kernel_rfl) (by kernel_rfl) rfl rfl rfl (fl_move rfl) ?_
              refine WL_guard rfl rfl ?_
              refine WL_move rfl rfl ?_
              refine WL_nil ?_
              refine WA_takeG 15 rfl (by kernel_rfl) (by kernel_rfl) (by kernel_rfl) rfl rfl rfl (fl_move rfl) ?_
              refine WL_guard rfl rfl ?_
              refine WL_move rfl rfl ?_
              refine WL_nil ?_
              refine WA_takeG 16 rfl (by kernel_rfl) (by kernel_rfl) (by kernel_rfl) rfl rfl rfl (fl_sub rfl rfl) ?_
              refine WL_guard rfl rfl ?_
              refine WL_sub rfl rfl rfl ?_
              refine WL_nil ?_
              obtain ⟨x6, hx3, hr2⟩ := bind_some hr2
              refine WA_takeG 17 rfl (by kernel_rfl) (by kernel_rfl) (by kernel_rfl) rfl rfl rfl (fl_index Try.underlying27 ty3 g1 hx3 rfl rfl) ?_
              refine WL_guard rfl rfl ?_
              refine WL_index Try.underlying27 ty3 g1 hx3 rfl rfl rfl (fun b3 o3 h4 => ?_)
              refine WL_nil ?_
              refine WA.sub (l' := [(0, u1), (3, (.int .i64 x1)), (4, (.int .i64 x1)), (5, u1), (6, (.int .i64 (List.length a1 : Int))), (7, (.bool (decide (x1 < (List.length a1 : Int))))), (10, u1), (11, (.int .i64 x1)), (12, (ptr b1 o1)), (13, (.int .i64 x3)), (14, (.bool x4)), (15, (.bool (!x4))), (16, (.bool false)), (17, (.int .i64 x1)), (18, (.bool (decide (0 < x1)))), (19, (.bool true)), (20, u1), (21, (.int .i64 x1)), (22, (ptr b2 o2)), (24, u1), (25, (.int .i64 x1)), (26, (.int .i64 (w64 (x1 - 1)))), (27, (ptr b3 o3))]) ?_ ⟨rfl, rfl, rfl, rfl, rfl, rfl, rfl, rfl, rfl, rfl, rfl, rfl, rfl, rfl, rfl, rfl, rfl, rfl, rfl, rfl, rfl, rfl, rfl, trivial⟩
              refine WA_postsE [⟨13, [], fun vs => PW.val (.int .i64 x5), []⟩, ⟨18, [], fun vs => PW.val (.int .i64 x6), []⟩] [[], []] 3 rfl (by kernel_rfl) (by kernel_rfl) rfl ?_ ?_
              · refine StepsE_cons rfl ?_ ?_
                · intro w5 hB5
                  refine DepsE_nil ?_
                  refine ⟨_, rfl, ?_⟩
                  refine WL_guard rfl rfl ?_
                  refine WL_load ty3 h3 (hC4.keep.then hB5) rfl rfl (fun v2 h5 => ?_)
                  obtain rfl := ro_int h5
                  refine WL_nil ?_
                  exact FinE_val (Below.refl _ _) rfl rfl ⟨rfl, rfl⟩
                refine StepsE_cons rfl ?_ ?_
                · intro w5 hB5
                  refine DepsE_nil ?_
                  refine ⟨_, rfl, ?_⟩
                  refine WL_guard rfl rfl ?_
                  refine WL_load ty3 h4 (hC4.keep.then hB5) rfl rfl (fun v3 h6 => ?_)
                  obtain rfl := ro_int h6
                  refine WL_nil ?_
                  exact FinE_val (Below.refl _ _) rfl rfl ⟨rfl, rfl⟩
                exact StepsE_nil
              · intro w6 hB6
                refine AllE_cons rfl rfl rfl ?_
                rintro _ _ ⟨rfl, rfl⟩
                refine AllE_cons rfl rfl rfl ?_
                rintro _ _ ⟨rfl, rfl⟩
                refine AllE_nil ?_
                intro hn1 hb1
                have hC5 := hC4.grow hB6
                refine WA_takeG 19 rfl (by kernel_rfl) (by kernel_rfl) (by kernel_rfl) rfl rfl rfl (fl_lss rfl rfl) ?_
                refine WL_guard rfl rfl ?_
                refine WL_lss rfl rfl rfl ?_
                refine WL_nil ?_
                refine WA_takeG 20 rfl (by kernel_rfl) (by kernel_rfl) (by kernel_rfl) rfl rfl rfl (fl_pick_t rfl rfl) ?_
                refine WL_guard rfl rfl ?_
                refine WL_pick_t rfl rfl rfl ?_
                refine WL_nil ?_
                refine WA_take 21 rfl (by kernel_rfl) (by kernel_rfl) (by kernel_rfl) rfl (fl_pick_f rfl rfl) ?_
                refine WL_pick_f rfl rfl rfl ?_
                refine WL_nil ?_
                refine WA_done (by kernel_rfl) ?_
                have hq2 := Option.some.inj hr2
                subst hq2
                refine nrm_sub (l' := [(0, u1), (3, (.int .i64 x1)), (31, (.bool (decide (x5 < x6))))]) ⟨rfl, rfl, rfl, trivial⟩ ?_
                exact ⟨(decide (x5 < x6)), rfl, rfl, (((Keep.of hB3).then hB4).then hB6).below, hC5⟩
            · replace hr2 := ite_f hr2 hc3
              refine WA_skip 10 rfl (by kernel_rfl) (by kernel_rfl) (by kernel_rfl) rfl rfl rfl (by simp) rfl rfl ?_
              refine WA_skip 11 rfl (by kernel_rfl) (by kernel_rfl) (by kernel_rfl) rfl rfl rfl (by simp) rfl rfl ?_
              refine WA_skip 12 rfl (by kernel_rfl) (by kernel_rfl) (by kernel_rfl) rfl rfl rfl (by simp) rfl rfl ?_
              refine WA_skip 13 rfl (by kernel_rfl) (by kernel_rfl) (by kernel_rfl) rfl rfl rfl (by simp) rfl rfl ?_
              refine WA_skip 14 rfl (by kernel_rfl) (by kernel_rfl) (by kernel_rfl) rfl rfl rfl (by simp) rfl rfl ?_
              refine WA_skip 15 rfl (by kernel_rfl) (by kernel_rfl) (by kernel_rfl) rfl rfl rfl (by simp) rfl rfl ?_
              refine WA_skip 16 rfl (by kernel_rfl) (by kernel_rfl) (by kernel_rfl) rfl rfl rfl (by simp) rfl rfl ?_
              refine WA_skip 17 rfl (by kernel_rfl) (by kernel_rfl) (by kernel_rfl) rfl rfl rfl (by simp) rfl rfl ?_
              refine WA_skip 18 rfl (by kernel_rfl) (by kernel_rfl) (by kernel_rfl) rfl rfl rfl (by simp) rfl rfl ?_
              refine WA_skip 19 rfl (by kernel_rfl) (by kernel_rfl) (by kernel_rfl) rfl rfl rfl (by simp) rfl rfl ?_
              refine WA_takeG 20 rfl (by kernel_rfl) (by kernel_rfl) (by kernel_rfl) rfl rfl rfl (fl_pick_f rfl rfl) ?_
              refine WL_guard rfl rfl ?_
              refine WL_pick_f rfl rfl rfl ?_
              refine WL_nil ?_
              refine WA_take 21 rfl (by kernel_rfl) (by kernel_rfl) (by kernel_rfl) rfl (fl_pick_f rfl rfl) ?_
              refine WL_pick_f rfl rfl rfl ?_
              refine WL_nil ?_
              refine WA_done (by kernel_rfl) ?_
              have hq3 := Option.some.inj hr2
              subst hq3
              refine nrm_sub (l' := [(0, u1), (3, (.int .i64 x1)), (31, (.bool false))]) ⟨rfl, rfl, rfl, trivial⟩ ?_
              exact ⟨false, rfl, rfl, ((Keep.of hB3).then hB4).below, hC4⟩
        · rintro _ w2 ⟨x2, rfl, rfl, hB2, hC2⟩
          try dsimp only at hL1
          refine W_cond rfl (fun hc4 => ?_) (fun hc4 => ?_)
          · replace hL1 := ite_t hL1 hc4
            refine W_seq_reg ?_
            refine WL_assign rfl rfl ?_
            refine WL_nil ?_
            refine W_ret ?_
            refine blk_ret ?_
            refine nrm_ret ?_
            refine nrm_ret ?_
            refine blk_ret ?_
            refine nrm_ret ?_
            refine nrm_ret ?_
            have hq4 := Option.some.inj hL1
            subst hq4
            dsimp only at hF
            have hq5 := Option.some.inj hF
            subst hq5
            refine fn_ret1 rfl rfl ?_
            exact ⟨_, rfl, bool_res hC2 _⟩
          · replace hL1 := ite_f hL1 hc4
            refine W_skip ?_
            refine blk_normal ?_
            refine nrm_normal ?_
            refine W_reg ?_
            refine WL_move rfl rfl ?_
            refine WL_add rfl rfl rfl ?_
            refine WL_assign rfl rfl ?_
            refine WL_nil ?_
            refine nrm_sub (l' := [(0, u1), (3, (.int .i64 (w64 (x1 + 1))))]) ⟨rfl, rfl, trivial⟩ ?_
            exact ⟨k1, Nat.lt_succ_self _, w64 (x1 + 1), rfl, ((Keep.of hB1).then hB2).below, hC2, hL1⟩
      · replace hL1 := ite_f hL1 hc1
        refine W_exit ?_
        refine nrm_exit ?_
        refine nrm_exit ?_
        refine blk_exit ?_
        have hq6 := Option.some.inj hL1
        subst hq6
        refine nrm_sub (l' := [(0, u1)]) ⟨rfl, trivial⟩ ?_
        exact ⟨rfl, rfl, (Keep.of hB1).below, hC1⟩
  · rintro l3 _ w7 hs3 ⟨rfl, rfl, hB7, hC6⟩
    try dsimp only at hF
    refine nrm_sub' hs3 ?_
    clear hs3
    refine W_seq_reg ?_
    refine WL_move rfl rfl ?_
    refine WL_len Try.underlying27 g1 rfl rfl ?_
    refine WL_leq rfl rfl rfl ?_
    refine WL_assign rfl rfl ?_
    refine WL_nil ?_
    refine W_ret ?_
    have hq7 := Option.some.inj hF
    subst hq7
    refine fn_ret1 rfl rfl ?_
    exact ⟨_, rfl, bool_res hC6 _⟩

theorem c_S_IsKept {w0 : World} (a1 : (List Int)) (u1 : Value) (g1 : RO [] w0 u1 a1) (a2 : (Int × Int)) (rr : Bool) (hF : S.IsKept a1 a2 = some rr) :
    Calls Try.prog 58 [u1, (.agg #[(.int .i64 a2.1), (.int .i64 a2.2)])].toArray w0 fun e w' => ∃ v, e = .returned v ∧ Res w0 rr v w' := by
  refine calls_of_W Try.func58 rfl rfl ?_
  have hC0 := Ctx.start w0
  unfold S.IsKept at hF
  refine W_seq_reg ?_
  refine WL_box (cs := [(.int .i64 a2.1), (.int .i64 a2.2)]) hC0 rfl rfl rfl (fun b1 w1 hC1 hB1 => ?_)
  refine WL_assign rfl rfl ?_
  refine WL_nil ?_
  refine W_seq ?_
  obtain ⟨r1, hr1, hF⟩ := bind_some hF
  refine W_cut (fun l w => ∃ x1 : Bool, x1 = r1 ∧ l = [(0, u1), (3, (ptr b1 0)), (13, (.bool x1))] ∧ Below w1.heap.size w1 w ∧ Ctx [] w0 w [Item.box b1 [(.int .i64 a2.1), (.int .i64 a2.2)]]) ?_ ?_
  · refine W_reg ?_
    refine WL_move rfl rfl ?_
    obtain ⟨x2, hr2, hr1⟩ := bind_some hr1
    refine WL_call Try.call102 rfl rfl (c_S_l18Times a1 u1 (g1.now hC1.keep) x2 hr2) ?_
    intro _ w3 hv1
    obtain ⟨rfl, hB3⟩ := res_bool hv1
    have hC3 := hC1.grow hB3
    refine WL_not rfl rfl ?_
    refine WL_move rfl rfl ?_
    refine WL_fork (fun hc1 => ?_) (fun hc1 => ?_)
    · replace hr1 := ite_t hr1 hc1
      refine WL_guard_skip rfl rfl (by simp) rfl ?_
      refine WL_guard_skip rfl rfl (by simp) rfl ?_
      refine WL_guard_skip rfl rfl (by simp) rfl ?_
      refine WL_pick_t rfl rfl rfl ?_
      refine WL_nil ?_
      have hq1 := Option.some.inj hr1
      subst hq1
      refine nrm_sub (l' := [(0, u1), (3, (ptr b1 0)), (13, (.bool true))]) ⟨rfl, rfl, rfl, trivial⟩ ?_
      exact ⟨true, rfl, rfl, (Keep.of hB3).below, hC3⟩
    · replace hr1 := ite_f hr1 hc1
      refine WL_guard rfl rfl ?_
      refine WL_load_box_agg [(.int .i64 a2.1), (.int .i64 a2.2)] hC3 0 rfl rfl rfl Try.isAgg41 Try.sizeOf41 rfl rfl ?_
      obtain ⟨x3, hr3, hr1⟩ := bind_some hr1
      refine WL_guard rfl rfl ?_
      refine WL_call Try.call64 rfl rfl (c_S_IsWindow (a2.1, a2.2) x3 hr3) ?_
      intro _ w4 hv2
      obtain ⟨rfl, hB4⟩ := res_bool hv2
      have hC4 := hC3.grow hB4
      refine WL_guard rfl rfl ?_
      refine WL_not rfl rfl ?_
      refine WL_pick_f rfl rfl rfl ?_
      refine WL_nil ?_
      have hq2 := Option.some.inj hr1
      subst hq2
      refine nrm_sub (l' := [(0, u1), (3, (ptr b1 0)), (13, (.bool (!x3)))]) ⟨rfl, rfl, rfl, trivial⟩ ?_
      exact ⟨(!x3), rfl, rfl, ((Keep.of hB3).then hB4).below, hC4⟩
  · rintro _ w2 ⟨x1, rfl, rfl, hB2, hC2⟩
    try dsimp only at hF
    refine W_cond rfl (fun hc2 => ?_) (fun hc2 => ?_)
    · replace hF := ite_t hF hc2
      refine W_seq_reg ?_
      refine WL_assign rfl rfl ?_
      refine WL_nil ?_
      refine W_ret ?_
      refine nrm_ret ?_
      have hq3 := Option.some.inj hF
      subst hq3
      refine fn_ret1 rfl rfl ?_
      exact ⟨_, rfl, bool_res hC2 _⟩
    · replace hF := ite_f hF hc2
      refine W_skip ?_
      refine nrm_normal ?_
      refine W_seq ?_
      refine W_seq_reg ?_
      refine WL_assign rfl rfl ?_
      refine WL_nil ?_
      obtain ⟨r2, hr4, hF⟩ := bind_some hF
      refine W_norm (fun l w => .inl () = r2 ∧ l = [] ∧ Below w2.heap.size w2 w ∧ Ctx [] w0 w []) ?_ ?_
      · refine W_block ?_
        refine W.sub (l' := [(0, u1), (3, (ptr b1 0)), (5, (.int .i64 0))]) ?_ ⟨rfl, rfl, rfl, trivial⟩
        refine W_loop (fun k l w => ∃ x4 : Int, l = [(0, u1), (3, (ptr b1 0)), (5, (.int .i64 x4))] ∧ Below w2.heap.size w2 w ∧ Ctx [] w0 w [Item.box b1 [(.int .i64 a2.1), (.int .i64 a2.2)]] ∧ S.IsKept_l1 a1 a2 k x4 = some r2) FUEL ⟨0, rfl, (Below.refl _ _), hC2, hr4⟩ ?_
        clear hr4
        rintro k1 _ w5 ⟨x4, rfl, hB5, hC5, hL1⟩
        cases k1 with
        | zero => rw [S.IsKept_l1] at hL1; cases hL1
        | succ k1 =>
          rw [S.IsKept_l1] at hL1
          refine W_seq ?_
          refine W_seq_reg ?_
          refine WL_move rfl rfl ?_
          refine WL_move rfl rfl ?_
          refine WL_len Try.underlying27 g1 rfl rfl ?_
          refine WL_lss rfl rfl rfl ?_
          refine WL_nil ?_
          refine W_cond rfl (fun hc3 => ?_) (fun hc3 => ?_)
          · replace hL1 := ite_t hL1 hc3
            refine W_skip ?_
            refine nrm_normal ?_
            refine W_seq ?_
            refine W_block ?_
            refine W_seq ?_
            refine W_drawn 11 rfl hmix (fun w6 hB6 => ?_)
            have hC6 := hC5.grow hB6
            refine WA_take 0 rfl (by kernel_rfl) (by kernel_rfl) (by kernel_rfl) rfl (fl_move rfl) ?_
            refine WL_move rfl rfl ?_
            refine WL_nil ?_
            refine WA_take 1 rfl (by kernel_rfl) (by kernel_rfl) (by kernel_rfl) rfl (fl_move rfl) ?_
            refine WL_move rfl rfl ?_
            refine WL_nil ?_
            refine WA_take 2 rfl (by kernel_rfl) (by kernel_rfl) (by kernel_rfl) rfl (fl_move rfl) ?_
            refine WL_move rfl rfl ?_
            refine WL_nil ?_
            obtain ⟨x5, hx1, hL1⟩ := bind_some hL1
            refine WA_take 3 rfl (by kernel_rfl) (by kernel_rfl) (by kernel_rfl) rfl (fl_index Try.underlying27 ty3 g1 hx1 rfl rfl) ?_
            refine WL_index Try.underlying27 ty3 g1 hx1 rfl rfl rfl (fun b2 o1 h1 => ?_)
            refine WL_nil ?_
            refine WA_take 5 rfl (by kernel_rfl) (by kernel_rfl) (by kernel_rfl) rfl (fl_field Try.underlying41 rfl rfl (fun w => ⟨_, Try.sizeOf3 w⟩) rfl) ?_
            refine WL_field Try.underlying41 rfl rfl (fun w => ⟨_, Try.sizeOf3 w⟩) rfl rfl ?_
            refine WL_nil ?_
            refine WA_take 8 rfl (by kernel_rfl) (by kernel_rfl) (by kernel_rfl) rfl (fl_field Try.underlying41 rfl rfl (fun w => ⟨_, Try.sizeOf3 w⟩) rfl) ?_
            refine WL_field Try.underlying41 rfl rfl (fun w => ⟨_, Try.sizeOf3 w⟩) rfl rfl ?_
            refine WL_nil ?_
            obtain ⟨x6, hr5, hL1⟩ := bind_some hL1
            refine WA.sub (l' := [(0, u1), (3, (ptr b1 0)), (5, (.int .i64 x4)), (14, (.int .i64 x4)), (15, u1), (16, (.int .i64 (List.length a1 : Int))), (17, (.bool (decide (x4 < (List.length a1 : Int))))), (20, u1), (21, u1), (22, (.int .i64 x4)), (23, (ptr b2 o1)), (25, (ptr b1 0)), (28, (ptr b1 1))]) ?_ ⟨rfl, rfl, rfl, rfl, rfl, rfl, rfl, rfl, rfl, rfl, rfl, rfl, rfl, trivial⟩
            refine WA_postsE [⟨4, [], fun vs => PW.val (.int .i64 x5), []⟩, ⟨6, [], fun vs => PW.val (.int .i64 a2.1), []⟩, ⟨7, [], fun vs => PW.val (.int .i64 x6), []⟩, ⟨9, [], fun vs => PW.val (.int .i64 a2.2), []⟩] [[], [], [4, 6], []] 1 rfl (by kernel_rfl) (by kernel_rfl) rfl ?_ ?_
            · refine StepsE_cons rfl ?_ ?_
              · intro w8 hB8
                refine DepsE_nil ?_
                refine ⟨_, rfl, ?_⟩
                refine WL_load ty3 h1 (hC6.keep.then hB8) rfl rfl (fun v1 h2 => ?_)
                obtain rfl := ro_int h2
                refine WL_nil ?_
                exact FinE_val (Below.refl _ _) rfl rfl ⟨rfl, rfl⟩
              refine StepsE_cons rfl ?_ ?_
              · intro w8 hB8
                refine DepsE_nil ?_
                refine ⟨_, rfl, ?_⟩
                refine WL_load_box (hC6.grow hB8) 0 rfl rfl Try.isAgg3 rfl rfl ?_
                refine WL_nil ?_
                exact FinE_val (Below.refl _ _) rfl rfl ⟨rfl, rfl⟩
              refine StepsE_cons rfl ?_ ?_
              · intro w8 hB8
                refine DepsE_cons rfl rfl rfl ?_
                rintro _ _ ⟨rfl, rfl⟩ _
                refine DepsE_cons rfl rfl rfl ?_
                rintro _ _ ⟨rfl, rfl⟩ _
                refine DepsE_nil ?_
                refine ⟨_, rfl, ?_⟩
                refine WL_call Try.call57 rfl rfl (c_S_CallsIn a1 u1 (g1.now (hC6.keep.then hB8)) x5 a2.1 x6 hr5) ?_
                intro _ w7 hv3
                obtain ⟨rfl, hB7⟩ := res_int hv3
                refine WL_nil ?_
                exact FinE_val hB7 rfl rfl ⟨rfl, rfl⟩
              refine StepsE_cons rfl ?_ ?_
              · intro w8 hB8
                refine DepsE_nil ?_
                refine ⟨_, rfl, ?_⟩
                refine WL_load_box (hC6.grow hB8) 0 rfl rfl Try.isAgg3 rfl rfl ?_
                refine WL_nil ?_
                exact FinE_val (Below.refl _ _) rfl rfl ⟨rfl, rfl⟩
              exact StepsE_nil
            · intro w9 hB9
              refine AllE_cons rfl rfl rfl ?_
              rintro _ _ ⟨rfl, rfl⟩
              refine AllE_cons rfl rfl rfl ?_
              rintro _ _ ⟨rfl, rfl⟩
              refine AllE_cons rfl rfl rfl ?_
              rintro _ _ ⟨rfl, rfl⟩
              refine AllE_cons rfl rfl rfl ?_
              rintro _ _ ⟨rfl, rfl⟩
              refine AllE_nil ?_
              intro hn1 hb1
              have hC7 := hC6.grow hB9
              refine WA_take 10 rfl (by kernel_rfl) (by kernel_rfl) (by kernel_rfl) rfl (fl_gtr rfl rfl) ?_
              refine WL_gtr rfl rfl rfl ?_
              refine WL_nil ?_
              refine WA_done (by kernel_rfl) ?_
              refine nrm_normal ?_
              refine W_cond rfl (fun hc4 => ?_) (fun hc4 => ?_)
              · replace hL1 := ite_t hL1 hc4
                refine W_seq_reg ?_
                refine WL_assign rfl rfl ?_
                refine WL_nil ?_
                refine W_ret ?_
                refine blk_ret ?_
                refine nrm_ret ?_
                refine nrm_ret ?_
                refine blk_ret ?_
                refine nrm_ret ?_
                refine nrm_ret ?_
                have hq4 := Option.some.inj hL1
                subst hq4
                dsimp only at hF
                have hq5 := Option.some.inj hF
                subst hq5
                refine fn_ret1 rfl rfl ?_
                exact ⟨_, rfl, bool_res hC7 _⟩
              · replace hL1 := ite_f hL1 hc4
                refine W_skip ?_
                refine blk_normal ?_
                refine nrm_normal ?_
                refine W_reg ?_
                refine WL_move rfl rfl ?_
                refine WL_add rfl rfl rfl ?_
                refine WL_assign rfl rfl ?_
                refine WL_nil ?_
                refine nrm_sub (l' := [(0, u1), (3, (ptr b1 0)), (5, (.int .i64 (w64 (x4 + 1))))]) ⟨rfl, rfl, rfl, trivial⟩ ?_
                exact ⟨k1, Nat.lt_succ_self _, w64 (x4 + 1), rfl, (((Keep.of hB5).then hB6).then hB9).below, hC7, hL1⟩
          · replace hL1 := ite_f hL1 hc3
            refine W_exit ?_
            refine nrm_exit ?_
            refine nrm_exit ?_
            refine blk_exit ?_
            have hq6 := Option.some.inj hL1
            subst hq6
            have hC8 : Ctx [] w0 _ [] := hC5.headN 0
            refine nrm_sub (l' := []) trivial ?_
            exact ⟨rfl, rfl, (Keep.of hB5).below, hC8⟩
      · rintro l3 _ w10 hs3 ⟨rfl, rfl, hB10, hC9⟩
        try dsimp only at hF
        refine nrm_sub' hs3 ?_
        clear hs3
        refine W_seq_reg ?_
        refine WL_assign rfl rfl ?_
        refine WL_nil ?_
        refine W_ret ?_
        have hq7 := Option.some.inj hF
        subst hq7
        refine fn_ret1 rfl rfl ?_
        exact ⟨_, rfl, bool_res hC9 _⟩

theorem c_S_NextTime {w0 : World} (a1 : (List Int)) (u1 : Value) (g1 : RO [] w0 u1 a1) (a2 : (Int × Int)) (a3 : Int) (rr : (Int × Bool)) (hF : S.NextTime a1 a2 a3 = some rr) :
    Calls Try.prog 26 [u1, (.agg #[(.int .i64 a2.1), (.int .i64 a2.2)]), (.int .i64 a3)].toArray w0 fun e w' => ∃ v, e = .returned v ∧ Res2 w0 rr.1 rr.2 v w' := by
  refine calls_of_W Try.func26 rfl rfl ?_
  have hC0 := Ctx.start w0
  unfold S.NextTime at hF
  refine W_seq_reg ?_
  refine WL_box (cs := [(.int .i64 a2.1), (.int .i64 a2.2)]) hC0 rfl rfl rfl (fun b1 w1 hC1 hB1 => ?_)
  refine WL_assign rfl rfl ?_
  refine WL_assign rfl rfl ?_
  refine WL_nil ?_
  refine W_seq ?_
  obtain ⟨r1, hr1, hF⟩ := bind_some hF
  refine W_cut (fun l w => ∃ x1 : Bool, x1 = r1 ∧ l = [(0, u1), (2, (.int .i64 a3)), (4, (ptr b1 0)), (17, (.bool x1))] ∧ Below w1.heap.size w1 w ∧ Ctx [] w0 w [Item.box b1 [(.int .i64 a2.1), (.int .i64 a2.2)]]) ?_ ?_
  · refine W_reg ?_
    refine WL_move rfl rfl ?_
    refine WL_load_box_agg [(.int .i64 a2.1), (.int .i64 a2.2)] hC1 0 rfl rfl rfl Try.isAgg41 Try.sizeOf41 rfl rfl ?_
    obtain ⟨x2, hr2, hr1⟩ := bind_some hr1
    refine WL_call Try.call58 rfl rfl (c_S_IsKept a1 u1 (g1.now hC1.keep) (a2.1, a2.2) x2 hr2) ?_
    intro _ w3 hv1
    obtain ⟨rfl, hB3⟩ := res_bool hv1
    have hC3 := hC1.grow hB3
    refine WL_not rfl rfl ?_
    refine WL_move rfl rfl ?_
    refine WL_fork (fun hc1 => ?_) (fun hc1 => ?_)
    · replace hr1 := ite_t hr1 hc1
      refine WL_guard_skip rfl rfl (by simp) rfl ?_
      refine WL_guard_skip rfl rfl (by simp) rfl ?_
      refine WL_guard_skip rfl rfl (by simp) rfl ?_
      refine WL_pick_t rfl rfl rfl ?_
      refine WL_nil ?_
      have hq1 := Option.some.inj hr1
      subst hq1
      refine nrm_sub (l' := [(0, u1), (2, (.int .i64 a3)), (4, (ptr b1 0)), (17, (.bool true))]) ⟨rfl, rfl, rfl, rfl, trivial⟩ ?_
      exact ⟨true, rfl, rfl, (Keep.of hB3).below, hC3⟩
    · replace hr1 := ite_f hr1 hc1
      refine WL_guard rfl rfl ?_
      refine WL_move rfl rfl ?_
      obtain ⟨x3, hr3, hr1⟩ := bind_some hr1
      refine WL_guard rfl rfl ?_
      refine WL_call Try.call79 rfl rfl (c_S_l1In a3 0 10000 x3 hr3) ?_
      intro _ w4 hv2
      obtain ⟨rfl, hB4⟩ := res_bool hv2
      have hC4 := hC3.grow hB4
      refine WL_guard rfl rfl ?_
      refine WL_not rfl rfl ?_
      refine WL_pick_f rfl rfl rfl ?_
      refine WL_nil ?_
      have hq2 := Option.some.inj hr1
      subst hq2
      refine nrm_sub (l' := [(0, u1), (2, (.int .i64 a3)), (4, (ptr b1 0)), (17, (.bool (!x3)))]) ⟨rfl, rfl, rfl, rfl, trivial⟩ ?_
      exact ⟨(!x3), rfl, rfl, ((Keep.of hB3).then hB4).below, hC4⟩
  · rintro _ w2 ⟨x1, rfl, rfl, hB2, hC2⟩
    try dsimp only at hF
    refine W_cond rfl (fun hc2 => ?_) (fun hc2 => ?_)
    · replace hF := ite_t hF hc2
      refine W_seq_reg ?_
      refine WL_assign rfl rfl ?_
      refine WL_assign rfl rfl ?_
      refine WL_nil ?_
      refine W_ret ?_
      refine nrm_ret ?_
      have hq3 := Option.some.inj hF
      subst hq3
      refine fn_ret2 rfl rfl rfl ?_
      have hC5 := hC2.triv (bool_val (false))
      have hC6 := hC5.triv (int_val (0))
      exact ⟨_, rfl, res2_of hC6⟩
    · replace hF := ite_f hF hc2
      refine W_skip ?_
      refine nrm_normal ?_
      refine W_seq_reg ?_
      refine WL_move rfl rfl ?_
      refine WL_assign rfl rfl ?_
      refine WL_nil ?_
      refine W_seq ?_
      refine W_seq_reg ?_
      refine WL_move rfl rfl ?_
      refine WL_len Try.underlying27 g1 rfl rfl ?_
      refine WL_gtr rfl rfl rfl ?_
      refine WL_nil ?_
      obtain ⟨r2, hr4, hF⟩ := bind_some hF
      refine W_norm (fun l w => ∃ x4 : Int, x4 = r2 ∧ l = [(0, u1), (4, (ptr b1 0)), (8, (.int .i64 x4))] ∧ Below w2.heap.size w2 w ∧ Ctx [] w0 w [Item.box b1 [(.int .i64 a2.1), (.int .i64 a2.2)]]) ?_ ?_
      · refine W_cond rfl (fun hc3 => ?_) (fun hc3 => ?_)
        · replace hr4 := ite_t hr4 hc3
          refine W_reg ?_
          refine WL_move rfl rfl ?_
          refine WL_move rfl rfl ?_
          refine WL_move rfl rfl ?_
          refine WL_len Try.underlying27 g1 rfl rfl ?_
          refine WL_sub rfl rfl rfl ?_
          obtain ⟨x5, hx1, hr4⟩ := bind_some hr4
          refine WL_index Try.underlying27 ty3 g1 hx1 rfl rfl rfl (fun b2 o1 h1 => ?_)
          refine WL_load ty3 h1 hC2.keep rfl rfl (fun v1 h2 => ?_)
          obtain rfl := ro_int h2
          refine WL_max rfl rfl rfl ?_
          refine WL_assign rfl rfl ?_
          refine WL_nil ?_
          have hq4 := Option.some.inj hr4
          subst hq4
          refine nrm_sub (l' := [(0, u1), (4, (ptr b1 0)), (8, (.int .i64 (if x5 > a3 then x5 else a3)))]) ⟨rfl, rfl, rfl, trivial⟩ ?_
          exact ⟨if x5 > a3 then x5 else a3, rfl, rfl, (Below.refl _ _), hC2⟩
        · replace hr4 := ite_f hr4 hc3
          refine W_skip ?_
          have hq5 := Option.some.inj hr4
          subst hq5
          refine nrm_sub (l' := [(0, u1), (4, (ptr b1 0)), (8, (.int .i64 a3))]) ⟨rfl, rfl, rfl, trivial⟩ ?_
          exact ⟨a3, rfl, rfl, (Below.refl _ _), hC2⟩
      · rintro l2 _ w5 hs2 ⟨x4, rfl, rfl, hB5, hC7⟩
        try dsimp only at hF
        refine nrm_sub' hs2 ?_
        clear hs2
        refine W_seq ?_
        refine W_seq_reg ?_
        refine WL_move rfl rfl ?_
        refine WL_len Try.underlying27 g1 rfl rfl ?_
        refine WL_field Try.underlying41 rfl rfl (fun w => ⟨_, Try.sizeOf3 w⟩) rfl rfl ?_
        refine WL_load_box hC7 0 rfl rfl Try.isAgg3 rfl rfl ?_
        refine WL_geq rfl rfl rfl ?_
        refine WL_nil ?_
        obtain ⟨r3, hr5, hF⟩ := bind_some hF
        refine W_norm (fun l w => ∃ x6 : Int, x6 = r3 ∧ l = [(8, (.int .i64 x6))] ∧ Below w5.heap.size w5 w ∧ Ctx [] w0 w []) ?_ ?_
        · refine W_cond rfl (fun hc4 => ?_) (fun hc4 => ?_)
          · replace hr5 := ite_t hr5 hc4
            refine W_drawn 14 rfl hmix (fun w7 hB7 => ?_)
            have hC9 := hC7.grow hB7
            refine WA_take 0 rfl (by kernel_rfl) (by kernel_rfl) (by kernel_rfl) rfl (fl_move rfl) ?_
            refine WL_move rfl rfl ?_
            refine WL_nil ?_
            refine WA_take 1 rfl (by kernel_rfl) (by kernel_rfl) (by kernel_rfl) rfl (fl_move rfl) ?_
            refine WL_move rfl rfl ?_
            refine WL_nil ?_
            refine WA_take 2 rfl (by kernel_rfl) (by kernel_rfl) (by kernel_rfl) rfl (fl_move rfl) ?_
            refine WL_move rfl rfl ?_
            refine WL_nil ?_
            refine WA_take 3 rfl (by kernel_rfl) (by kernel_rfl) (by kernel_rfl) rfl (fl_len Try.underlying27 g1 rfl) ?_
            refine WL_len Try.underlying27 g1 rfl rfl ?_
            refine WL_nil ?_
            refine WA_take 4 rfl (by kernel_rfl) (by kernel_rfl) (by kernel_rfl) rfl (fl_field Try.underlying41 rfl rfl (fun w => ⟨_, Try.sizeOf3 w⟩) rfl) ?_
            refine WL_field Try.underlying41 rfl rfl (fun w => ⟨_, Try.sizeOf3 w⟩) rfl rfl ?_
            refine WL_nil ?_
            refine WA_take 9 rfl (by kernel_rfl) (by kernel_rfl) (by kernel_rfl) rfl (fl_field Try.underlying41 rfl rfl (fun w => ⟨_, Try.sizeOf3 w⟩) rfl) ?_
            refine WL_field Try.underlying41 rfl rfl (fun w => ⟨_, Try.sizeOf3 w⟩) rfl rfl ?_
            refine WL_nil ?_
            obtain ⟨x7, hx2, hr5⟩ := bind_some hr5
            refine WA.sub (l' := [(0, u1), (4, (ptr b1 0)), (8, (.int .i64 x4)), (30, u1), (31, (.int .i64 (List.length a1 : Int))), (32, (ptr b1 1)), (33, (.int .i64 a2.2)), (34, (.bool (decide (a2.2 ≤ (List.length a1 : Int))))), (35, (.int .i64 x4)), (36, u1), (37, u1), (38, (.int .i64 (List.length a1 : Int))), (39, (ptr b1 1)), (44, (ptr b1 0))]) ?_ ⟨rfl, rfl, rfl, rfl, rfl, rfl, rfl, rfl, rfl, rfl, rfl, rfl, rfl, rfl, trivial⟩
            refine WA_postsE [⟨5, [], fun vs => PW.val (.int .i64 a2.2), []⟩, ⟨6, [], fun vs => PW.val (.int .i64 (w64 ((List.length a1 : Int) - a2.2))), []⟩, ⟨7, [], fun vs => PW.at [] w0 x7, []⟩, ⟨8, [], fun vs => PW.val (.int .i64 x7), []⟩, ⟨10, [], fun vs => PW.val (.int .i64 a2.1), []⟩] [[], [5], [6], [7], []] 3 rfl (by kernel_rfl) (by kernel_rfl) rfl ?_ ?_
            · refine StepsE_cons rfl ?_ ?_
              · intro w8 hB8
                refine DepsE_nil ?_
                refine ⟨_, rfl, ?_⟩
                refine WL_load_box (hC9.grow hB8) 0 rfl rfl Try.isAgg3 rfl rfl ?_
                refine WL_nil ?_
                exact FinE_val (Below.refl _ _) rfl rfl ⟨rfl, rfl⟩
              refine StepsE_cons rfl ?_ ?_
              · intro w8 hB8
                refine DepsE_cons rfl rfl rfl ?_
                rintro _ _ ⟨rfl, rfl⟩ _
                refine DepsE_nil ?_
                refine ⟨_, rfl, ?_⟩
                refine WL_sub rfl rfl rfl ?_
                refine WL_nil ?_
                exact FinE_val (Below.refl _ _) rfl rfl ⟨rfl, rfl⟩
              refine StepsE_cons rfl ?_ ?_
              · intro w8 hB8
                refine DepsE_cons rfl rfl rfl ?_
                rintro _ _ ⟨rfl, rfl⟩ _
                refine DepsE_nil ?_
                refine ⟨_, rfl, ?_⟩
                refine WL_index Try.underlying27 ty3 g1 hx2 rfl rfl rfl (fun b3 o2 h3 => ?_)
                refine WL_nil ?_
                exact FinE_val (Below.refl _ _) rfl rfl ⟨rfl, _, _, rfl, h3⟩
              refine StepsE_cons rfl ?_ ?_
              · intro w8 hB8
                refine DepsE_cons rfl rfl rfl ?_
                rintro _ _ ⟨rfl, b3, o2, rfl, h3⟩ _
                refine DepsE_nil ?_
                refine ⟨_, rfl, ?_⟩
                refine WL_load ty3 h3 (hC9.keep.then hB8) rfl rfl (fun v2 h4 => ?_)
                obtain rfl := ro_int h4
                refine WL_nil ?_
                exact FinE_val (Below.refl _ _) rfl rfl ⟨rfl, rfl⟩
              refine StepsE_cons rfl ?_ ?_
              · intro w8 hB8
                refine DepsE_nil ?_
                refine ⟨_, rfl, ?_⟩
                refine WL_load_box (hC9.grow hB8) 0 rfl rfl Try.isAgg3 rfl rfl ?_
                refine WL_nil ?_
                exact FinE_val (Below.refl _ _) rfl rfl ⟨rfl, rfl⟩
              exact StepsE_nil
            · intro w9 hB9
              refine AllE_cons rfl rfl rfl ?_
              rintro _ _ ⟨rfl, rfl⟩
              refine AllE_cons rfl rfl rfl ?_
              rintro _ _ ⟨rfl, rfl⟩
              refine AllE_cons rfl rfl rfl ?_
              rintro _ _ ⟨rfl, b3, o2, rfl, h3⟩
              refine AllE_cons rfl rfl rfl ?_
              rintro _ _ ⟨rfl, rfl⟩
              refine AllE_cons rfl rfl rfl ?_
              rintro _ _ ⟨rfl, rfl⟩
              refine AllE_nil ?_
              intro hn1 hb1
              have hC10 := hC9.grow hB9
              refine WA_take 11 rfl (by kernel_rfl) (by kernel_rfl) (by kernel_rfl) rfl (fl_add rfl rfl) ?_
              refine WL_add rfl rfl rfl ?_
              refine WL_nil ?_
              refine WA_take 12 rfl (by kernel_rfl) (by kernel_rfl) (by kernel_rfl) rfl (fl_max rfl rfl) ?_
              refine WL_max rfl rfl rfl ?_
              refine WL_nil ?_
              refine WA_take 13 rfl (by kernel_rfl) (by kernel_rfl) (by kernel_rfl) rfl (fl_assign rfl) ?_
              refine WL_assign rfl rfl ?_
              refine WL_nil ?_
              refine WA_done (by kernel_rfl) ?_
              have hq6 := Option.some.inj hr5
              subst hq6
              have hC11 : Ctx [] w0 _ [] := hC10.headN 0
              refine nrm_sub (l' := [(8, (.int .i64 (if (w64 (x7 + a2.1)) > x4 then w64 (x7 + a2.1) else x4)))]) ⟨rfl, trivial⟩ ?_
              exact ⟨if (w64 (x7 + a2.1)) > x4 then w64 (x7 + a2.1) else x4, rfl, rfl, ((Keep.of hB7).then hB9).below, hC11⟩
          · replace hr5 := ite_f hr5 hc4
            refine W_skip ?_
            have hq7 := Option.some.inj hr5
            subst hq7
            have hC12 : Ctx [] w0 _ [] := hC7.headN 0
            refine nrm_sub (l' := [(8, (.int .i64 x4))]) ⟨rfl, trivial⟩ ?_
            exact ⟨x4, rfl, rfl, (Below.refl _ _), hC12⟩
        · rintro l3 _ w6 hs3 ⟨x6, rfl, rfl, hB6, hC8⟩
          try dsimp only at hF
          refine nrm_sub' hs3 ?_
          clear hs3
          refine W_seq ?_
          refine W_seq_reg ?_
          refine WL_move rfl rfl ?_
          refine WL_gtr rfl rfl rfl ?_
          refine WL_nil ?_
          refine W_cond rfl (fun hc5 => ?_) (fun hc5 => ?_)
          · replace hF := ite_t hF hc5
            refine W_seq_reg ?_
            refine WL_assign rfl rfl ?_
            refine WL_assign rfl rfl ?_
            refine WL_nil ?_
            refine W_ret ?_
            refine nrm_ret ?_
            have hq8 := Option.some.inj hF
            subst hq8
            refine fn_ret2 rfl rfl rfl ?_
            have hC13 := hC8.triv (bool_val (false))
            have hC14 := hC13.triv (int_val (0))
            exact ⟨_, rfl, res2_of hC14⟩
          · replace hF := ite_f hF hc5
            refine W_skip ?_
            refine nrm_normal ?_
            refine W_seq_reg ?_
            refine WL_move rfl rfl ?_
            refine WL_assign rfl rfl ?_
            refine WL_assign rfl rfl ?_
            refine WL_nil ?_
            refine W_ret ?_
            have hq9 := Option.some.inj hF
            subst hq9
            refine fn_ret2 rfl rfl rfl ?_
            have hC15 := hC8.triv (bool_val (true))
            have hC16 := hC15.triv (int_val (x6))
            exact ⟨_, rfl, res2_of hC16⟩

theorem c_S_ScheduleCalls {w0 : World} (a1 : Int) (a2 : (Int × Int)) (a3 : Int) (rr : ((List Int) × Bool)) (hF : S.ScheduleCalls a1 a2 a3 = some rr) :
    Calls Try.prog 31 [(.int .i64 a1), (.agg #[(.int .i64 a2.1), (.int .i64 a2.2)]), (.int .i64 a3)].toArray w0 fun e w' => ∃ v, e = .returned v ∧ Res2 w0 rr.1 rr.2 v w' := by
  refine calls_of_W Try.func31 rfl rfl ?_
  have hC0 := Ctx.start w0
  unfold S.ScheduleCalls at hF
  refine W_seq_reg ?_
  refine WL_box (cs := [(.int .i64 a2.1), (.int .i64 a2.2)]) hC0 rfl rfl rfl (fun b1 w1 hC1 hB1 => ?_)
  refine WL_assign rfl rfl ?_
  refine WL_assign rfl rfl ?_
  refine WL_nil ?_
  refine W_seq_reg ?_
  refine WL_buildSlice (vs := []) hC1 Try.underlying27 ty3 rfl rfl rfl rfl (by simp) rfl rfl (fun b2 w2 hC2 hB2 => ?_)
  have hC3 := hC2.row0 (α := Int)
  have hC4 := hC3.front 1 rfl
  dsimp only [List.eraseIdx] at hC4
  have hC5 : Ctx [] w0 w2 (Item.own (.slice (some ⟨b2, 0, none⟩) 0 0) (([] : List Int) : List Int) :: [Item.box b1 [(.int .i64 a2.1), (.int .i64 a2.2)]]) := hC4.rowOwn (by simp [maxLen])
  refine WL_assign rfl rfl ?_
  refine WL_nil ?_
  refine W_seq ?_
  obtain ⟨r1, hr1, hF⟩ := bind_some hF
  refine W_cut (fun l w => ∃ x1 : Bool, x1 = r1 ∧ l = [(0, (.int .i64 a1)), (2, (.int .i64 a3)), (4, (ptr b1 0)), (8, (.slice (some ⟨b2, 0, none⟩) 0 0)), (25, (.bool x1))] ∧ Below w2.heap.size w2 w ∧ Ctx [] w0 w [Item.own (.slice (some ⟨b2, 0, none⟩) 0 0) (([] : List Int) : (List Int)), Item.box b1 [(.int .i64 a2.1), (.int .i64 a2.2)]]) ?_ ?_
  · refine W_reg ?_
    refine WL_move rfl rfl ?_
    obtain ⟨x2, hr2, hr1⟩ := bind_some hr1
    refine WL_call Try.call79 rfl rfl (c_S_l1In a1 0 100 x2 hr2) ?_
    intro _ w4 hv1
    obtain ⟨rfl, hB4⟩ := res_bool hv1
    have hC7 := hC5.grow hB4
    refine WL_not rfl rfl ?_
    refine WL_move rfl rfl ?_
    refine WL_fork (fun hc1 => ?_) (fun hc1 => ?_)
    · replace hr1 := ite_t hr1 hc1
      refine WL_guard_skip rfl rfl (by simp) rfl ?_
      refine WL_guard_skip rfl rfl (by simp) rfl ?_
      refine WL_guard_skip rfl rfl (by simp) rfl ?_
      refine WL_pick_t rfl rfl rfl ?_
      refine WL_move rfl rfl ?_
      refine WL_guard_skip rfl rfl (by simp) rfl ?_
      refine WL_guard_skip rfl rfl (by simp) rfl ?_
      refine WL_guard_skip rfl rfl (by simp) rfl ?_
      refine WL_pick_t rfl rfl rfl ?_
      refine WL_nil ?_
      have hq1 := Option.some.inj hr1
      subst hq1
      refine nrm_sub (l' := [(0, (.int .i64 a1)), (2, (.int .i64 a3)), (4, (ptr b1 0)), (8, (.slice (some ⟨b2, 0, none⟩) 0 0)), (25, (.bool true))]) ⟨rfl, rfl, rfl, rfl, rfl, trivial⟩ ?_
      exact ⟨true, rfl, rfl, (Keep.of hB4).below, hC7⟩
    · replace hr1 := ite_f hr1 hc1
      refine WL_guard rfl rfl ?_
      refine WL_load_box_agg [(.int .i64 a2.1), (.int .i64 a2.2)] hC7 1 rfl rfl rfl Try.isAgg41 Try.sizeOf41 rfl rfl ?_
      obtain ⟨x3, hr3, hr1⟩ := bind_some hr1
      refine WL_guard rfl rfl ?_
      refine WL_call Try.call64 rfl rfl (c_S_IsWindow (a2.1, a2.2) x3 hr3) ?_
      intro _ w5 hv2
      obtain ⟨rfl, hB5⟩ := res_bool hv2
      have hC8 := hC7.grow hB5
      refine WL_guard rfl rfl ?_
      refine WL_not rfl rfl ?_
      refine WL_pick_f rfl rfl rfl ?_
      refine WL_move rfl rfl ?_
      refine WL_fork (fun hc2 => ?_) (fun hc2 => ?_)
      · replace hr1 := ite_t hr1 hc2
        refine WL_guard_skip rfl rfl (by simp) rfl ?_
        refine WL_guard_skip rfl rfl (by simp) rfl ?_
        refine WL_guard_skip rfl rfl (by simp) rfl ?_
        refine WL_pick_t rfl rfl rfl ?_
        refine WL_nil ?_
        have hq2 := Option.some.inj hr1
        subst hq2
        refine nrm_sub (l' := [(0, (.int .i64 a1)), (2, (.int .i64 a3)), (4, (ptr b1 0)), (8, (.slice (some ⟨b2, 0, none⟩) 0 0)), (25, (.bool true))]) ⟨rfl, rfl, rfl, rfl, rfl, trivial⟩ ?_
        exact ⟨true, rfl, rfl, ((Keep.of hB4).then hB5).below, hC8⟩
      · replace hr1 := ite_f hr1 hc2
        refine WL_guard rfl rfl ?_
        refine WL_move rfl rfl ?_
        obtain ⟨x4, hr4, hr1⟩ := bind_some hr1
        refine WL_guard rfl rfl ?_
        refine WL_call Try.call79 rfl rfl (c_S_l1In a3 0 10000 x4 hr4) ?_
        intro _ w6 hv3
        obtain ⟨rfl, hB6⟩ := res_bool hv3
        have hC9 := hC8.grow hB6
        refine WL_guard rfl rfl ?_
        refine WL_not rfl rfl ?_
        refine WL_pick_f rfl rfl rfl ?_
        refine WL_nil ?_
        have hq3 := Option.some.inj hr1
        subst hq3
        refine nrm_sub (l' := [(0, (.int .i64 a1)), (2, (.int .i64 a3)), (4, (ptr b1 0)), (8, (.slice (some ⟨b2, 0, none⟩) 0 0)), (25, (.bool (!x4)))]) ⟨rfl, rfl, rfl, rfl, rfl, trivial⟩ ?_
        exact ⟨(!x4), rfl, rfl, (((Keep.of hB4).then hB5).then hB6).below, hC9⟩
  · rintro _ w3 ⟨x1, rfl, rfl, hB3, hC6⟩
    try dsimp only at hF
    refine W_cond rfl (fun hc3 => ?_) (fun hc3 => ?_)
    · replace hF := ite_t hF hc3
      refine W_seq_reg ?_
      refine WL_move rfl rfl ?_
      refine WL_assign rfl rfl ?_
      refine WL_assign rfl rfl ?_
      refine WL_nil ?_
      refine W_ret ?_
      refine nrm_ret ?_
      have hq4 := Option.some.inj hF
      subst hq4
      refine fn_ret2 rfl rfl rfl ?_
      have hC10 := hC6.triv (bool_val (false))
      have hC11 : Ctx [] w0 _ [Item.own (.slice (some ⟨b2, 0, none⟩) 0 0) (([] : List Int) : (List Int)), Item.own (.bool false) (false : Bool), Item.box b1 [(.int .i64 a2.1), (.int .i64 a2.2)]] := hC10.front 1 rfl
      exact ⟨_, rfl, res2_of hC11⟩
    · replace hF := ite_f hF hc3
      refine W_skip ?_
      refine nrm_normal ?_
      refine W_seq ?_
      refine W_seq_reg ?_
      refine WL_assign rfl rfl ?_
      refine WL_nil ?_
      obtain ⟨r2, hr5, hF⟩ := bind_some hF
      refine W_norm (fun l w => ∃ v2 : Value, ∃ x7 : (List Int), .inl x7 = r2 ∧ l = [(8, v2)] ∧ Ctx [] w0 w [Item.own v2 (x7 : (List Int))]) ?_ ?_
      · refine W_block ?_
        refine W.sub (l' := [(0, (.int .i64 a1)), (2, (.int .i64 a3)), (4, (ptr b1 0)), (8, (.slice (some ⟨b2, 0, none⟩) 0 0)), (9, (.int .i64 0))]) ?_ ⟨rfl, rfl, rfl, rfl, rfl, trivial⟩
        refine W_loop (fun k l w => ∃ v1 : Value, ∃ x5 : (List Int), ∃ x6 : Int, l = [(0, (.int .i64 a1)), (2, (.int .i64 a3)), (4, (ptr b1 0)), (8, v1), (9, (.int .i64 x6))] ∧ Ctx [] w0 w [Item.own v1 (x5 : (List Int)), Item.box b1 [(.int .i64 a2.1), (.int .i64 a2.2)]] ∧ S.ScheduleCalls_l1 a1 a2 a3 k x5 x6 = some r2) FUEL ⟨(.slice (some ⟨b2, 0, none⟩) 0 0), ([] : List Int), 0, rfl, hC6, hr5⟩ ?_
        clear hr5
        rintro k1 _ w7 ⟨v1, x5, x6, rfl, hC12, hL1⟩
        cases k1 with
        | zero => rw [S.ScheduleCalls_l1] at hL1; cases hL1
        | succ k1 =>
          rw [S.ScheduleCalls_l1] at hL1
          refine W_seq ?_
          refine W_seq_reg ?_
          refine WL_move rfl rfl ?_
          refine WL_move rfl rfl ?_
          refine WL_lss rfl rfl rfl ?_
          refine WL_nil ?_
          refine W_cond rfl (fun hc4 => ?_) (fun hc4 => ?_)
          · replace hL1 := ite_t hL1 hc4
            refine W_skip ?_
            refine nrm_normal ?_
            refine W_seq ?_
            refine W_block ?_
            refine W_seq_reg ?_
            refine WL_move rfl rfl ?_
            refine WL_load_box_agg [(.int .i64 a2.1), (.int .i64 a2.2)] hC12 1 rfl rfl rfl Try.isAgg41 Try.sizeOf41 rfl rfl ?_
            refine WL_move rfl rfl ?_
            obtain ⟨x8, hr6, hL1⟩ := bind_some hL1
            refine WL_call Try.call26 rfl rfl (c_S_NextTime x5 v1 ((hC12.ro 0 rfl).now (Keep.refl _ _)) (a2.1, a2.2) a3 x8 hr6) ?_
            rintro _ w8 ⟨hB8, v3, v4, F1, F2, rfl, hv4, hv5, hn1, hb1⟩
            obtain ⟨rfl, rfl⟩ := val_int hv4
            obtain ⟨rfl, rfl⟩ := val_bool hv5
            have hC13 := hC12.grow hB8
            refine WL_move rfl rfl ?_
            refine WL_extract rfl rfl rfl ?_
            refine WL_extract rfl rfl rfl ?_
            refine WL_assign rfl rfl ?_
            refine WL_assign rfl rfl ?_
            refine WL_nil ?_
            refine W_seq ?_
            refine W_seq_reg ?_
            refine WL_move rfl rfl ?_
            refine WL_not rfl rfl ?_
            refine WL_nil ?_
            refine W_cond rfl (fun hc5 => ?_) (fun hc5 => ?_)
            · replace hL1 := ite_t hL1 hc5
              refine W_seq_reg ?_
              refine WL_buildSlice (vs := []) hC13 Try.underlying27 ty3 rfl rfl rfl rfl (by simp) rfl rfl (fun b3 w9 hC14 hB9 => ?_)
              have hC15 := hC14.row0 (α := Int)
              have hC16 := hC15.front 1 rfl
              dsimp only [List.eraseIdx] at hC16
              have hC17 : Ctx [] w0 w9 (Item.own (.slice (some ⟨b3, 0, none⟩) 0 0) (([] : List Int) : List Int) :: [Item.own v1 (x5 : (List Int)), Item.box b1 [(.int .i64 a2.1), (.int .i64 a2.2)]]) := hC16.rowOwn (by simp [maxLen])
              refine WL_assign rfl rfl ?_
              refine WL_assign rfl rfl ?_
              refine WL_nil ?_
              refine W_ret ?_
              refine nrm_ret ?_
              refine blk_ret ?_
              refine nrm_ret ?_
              refine nrm_ret ?_
              refine blk_ret ?_
              refine nrm_ret ?_
              refine nrm_ret ?_
              have hq5 := Option.some.inj hL1
              subst hq5
              dsimp only at hF
              have hq6 := Option.some.inj hF
              subst hq6
              refine fn_ret2 rfl rfl rfl ?_
              have hC18 := hC17.triv (bool_val (false))
              have hC19 : Ctx [] w0 _ [Item.own (.slice (some ⟨b3, 0, none⟩) 0 0) (([] : List Int) : (List Int)), Item.own (.bool false) (false : Bool), Item.own v1 (x5 : (List Int)), Item.box b1 [(.int .i64 a2.1), (.int .i64 a2.2)]] := hC18.front 1 rfl
              exact ⟨_, rfl, res2_of hC19⟩
            · replace hL1 := ite_f hL1 hc5
              refine W_skip ?_
              refine nrm_normal ?_
              refine W_reg ?_
              refine WL_move rfl rfl ?_
              refine WL_move rfl rfl ?_
              refine WL_buildSlice (vs := [(.int .i64 x8.1)]) hC13 Try.underlying27 ty3 rfl rfl rfl rfl (by intro v hv; simp only [List.mem_cons, List.not_mem_nil, or_false] at hv; rcases hv with rfl <;> rfl) rfl rfl (fun b4 w10 hC20 hB10 => ?_)
              have hC21 := hC20.row0 (α := Int)
              have hC22 := hC21.triv (int_val (x8.1))
              have hC23 := hC22.row1
              have hC24 := hC23.front 1 rfl
              dsimp only [List.eraseIdx] at hC24
              have hC25 : Ctx [] w0 w10 (Item.own (.slice (some ⟨b4, 0, none⟩) 1 1) ([x8.1] : List Int) :: [Item.own v1 (x5 : (List Int)), Item.box b1 [(.int .i64 a2.1), (.int .i64 a2.2)]]) := hC24.rowOwn (by simp [maxLen])
              obtain ⟨x9, hx1, hL1⟩ := bind_some hL1
              refine WL_append_flat (α := Int) hC25 1 rfl (hC25.ro 0 rfl) (Keep.refl _ _) Try.underlying27 ty3 rfl hx1 rfl rfl rfl (fun v5 w11 hC26 => ?_)
              try dsimp only [List.set] at hC26
              refine WL_assign rfl rfl ?_
              refine WL_nil ?_
              refine blk_normal ?_
              refine nrm_normal ?_
              refine W_reg ?_
              refine WL_move rfl rfl ?_
              refine WL_add rfl rfl rfl ?_
              refine WL_assign rfl rfl ?_
              refine WL_nil ?_
              have hC27 : Ctx [] w0 _ [Item.box b1 [(.int .i64 a2.1), (.int .i64 a2.2)], Item.own (.slice (some ⟨b4, 0, none⟩) 1 1) ([x8.1] : (List Int)), Item.own v5 (x9 : (List Int))] := hC26.front 2 rfl
              have hC28 : Ctx [] w0 _ [Item.own v5 (x9 : (List Int)), Item.box b1 [(.int .i64 a2.1), (.int .i64 a2.2)], Item.own (.slice (some ⟨b4, 0, none⟩) 1 1) ([x8.1] : (List Int))] := hC27.front 2 rfl
              have hC29 : Ctx [] w0 _ [Item.own v5 (x9 : (List Int)), Item.box b1 [(.int .i64 a2.1), (.int .i64 a2.2)]] := hC28.headN 2
              refine nrm_sub (l' := [(0, (.int .i64 a1)), (2, (.int .i64 a3)), (4, (ptr b1 0)), (8, v5), (9, (.int .i64 (w64 (x6 + 1))))]) ⟨rfl, rfl, rfl, rfl, rfl, trivial⟩ ?_
              exact ⟨k1, Nat.lt_succ_self _, v5, x9, w64 (x6 + 1), rfl, hC29, hL1⟩
          · replace hL1 := ite_f hL1 hc4
            refine W_exit ?_
            refine nrm_exit ?_
            refine nrm_exit ?_
            refine blk_exit ?_
            have hq7 := Option.some.inj hL1
            subst hq7
            have hC30 : Ctx [] w0 _ [Item.own v1 (x5 : (List Int))] := hC12.headN 1
            refine nrm_sub (l' := [(8, v1)]) ⟨rfl, trivial⟩ ?_
            exact ⟨v1, x5, rfl, rfl, hC30⟩
      · rintro l3 _ w12 hs3 ⟨v2, x7, rfl, rfl, hC31⟩
        try dsimp only at hF
        refine nrm_sub' hs3 ?_
        clear hs3
        refine W_seq_reg ?_
        refine WL_move rfl rfl ?_
        refine WL_assign rfl rfl ?_
        refine WL_assign rfl rfl ?_
        refine WL_nil ?_
        refine W_ret ?_
        have hq8 := Option.some.inj hF
        subst hq8
        refine fn_ret2 rfl rfl rfl ?_
        have hC32 := hC31.triv (bool_val (true))
        have hC33 : Ctx [] w0 _ [Item.own v2 (x7 : (List Int)), Item.own (.bool true) (true : Bool)] := hC32.front 1 rfl
        exact ⟨_, rfl, res2_of hC33⟩

theorem c_M_within {w0 : World} (a1 : Int) (a2 : Int) (a3 : Int) (rr : Bool) (hF : M.within a1 a2 a3 = some rr) :
    Calls Try.prog 84 [(.int .i64 a1), (.int .i64 a2), (.int .i64 a3)].toArray w0 fun e w' => ∃ v, e = .returned v ∧ Res w0 rr v w' := by
  refine calls_of_W Try.func84 rfl rfl ?_
  have hC0 := Ctx.start w0
  unfold M.within at hF
  refine W_seq_reg ?_
  refine WL_assign rfl rfl ?_
  refine WL_nil ?_
  obtain ⟨r1, hr1, hF⟩ := bind_some hF
  refine W_cut (fun l w => ∃ x1 : Bool, x1 = r1 ∧ l = [(6, (.bool x1))] ∧ Below w0.heap.size w0 w ∧ Ctx [] w0 w []) ?_ ?_
  · refine W_reg ?_
    refine WL_move rfl rfl ?_
    refine WL_move rfl rfl ?_
    refine WL_geq rfl rfl rfl ?_
    refine WL_move rfl rfl ?_
    refine WL_fork (fun hc1 => ?_) (fun hc1 => ?_)
    · replace hr1 := ite_t hr1 hc1
      refine WL_guard rfl rfl ?_
      refine WL_move rfl rfl ?_
      refine WL_guard rfl rfl ?_
      refine WL_move rfl rfl ?_
      refine WL_guard rfl rfl ?_
      refine WL_leq rfl rfl rfl ?_
      refine WL_pick_t rfl rfl rfl ?_
      refine WL_assign rfl rfl ?_
      refine WL_nil ?_
      have hq1 := Option.some.inj hr1
      subst hq1
      refine nrm_sub (l' := [(6, (.bool (decide (a1 ≤ a3))))]) ⟨rfl, trivial⟩ ?_
      exact ⟨(decide (a1 ≤ a3)), rfl, rfl, (Below.refl _ _), hC0⟩
    · replace hr1 := ite_f hr1 hc1
      refine WL_guard_skip rfl rfl (by simp) rfl ?_
      refine WL_guard_skip rfl rfl (by simp) rfl ?_
      refine WL_guard_skip rfl rfl (by simp) rfl ?_
      refine WL_pick_f rfl rfl rfl ?_
      refine WL_assign rfl rfl ?_
      refine WL_nil ?_
      have hq2 := Option.some.inj hr1
      subst hq2
      refine nrm_sub (l' := [(6, (.bool false))]) ⟨rfl, trivial⟩ ?_
      exact ⟨false, rfl, rfl, (Below.refl _ _), hC0⟩
  · rintro _ w1 ⟨x1, rfl, rfl, hB1, hC1⟩
    try dsimp only at hF
    refine W_ret ?_
    have hq3 := Option.some.inj hF
    subst hq3
    refine fn_ret1 rfl rfl ?_
    exact ⟨_, rfl, bool_res hC1 _⟩

theorem c_M_IsWindow {w0 : World} (a1 : (Int × Int)) (rr : Bool) (hF : M.IsWindow a1 = some rr) :
    Calls Try.prog 63 [(.agg #[(.int .i64 a1.1), (.int .i64 a1.2)])].toArray w0 fun e w' => ∃ v, e = .returned v ∧ Res w0 rr v w' := by
  refine calls_of_W Try.func63 rfl rfl ?_
  have hC0 := Ctx.start w0
  unfold M.IsWindow at hF
  refine W_seq_reg ?_
  refine WL_box (cs := [(.int .i64 a1.1), (.int .i64 a1.2)]) hC0 rfl rfl rfl (fun b1 w1 hC1 hB1 => ?_)
  refine WL_assign rfl rfl ?_
  refine WL_nil ?_
  obtain ⟨r1, hr1, hF⟩ := bind_some hF
  refine W_cut (fun l w => ∃ x1 : Bool, x1 = r1 ∧ l = [(2, (.bool x1))] ∧ Below w1.heap.size w1 w ∧ Ctx [] w0 w []) ?_ ?_
  · refine W_reg ?_
    refine WL_field Try.underlying41 rfl rfl (fun w => ⟨_, Try.sizeOf3 w⟩) rfl rfl ?_
    refine WL_load_box hC1 0 rfl rfl Try.isAgg3 rfl rfl ?_
    obtain ⟨x2, hr2, hr1⟩ := bind_some hr1
    refine WL_call Try.call84 rfl rfl (c_M_within a1.1 1 100 x2 hr2) ?_
    intro _ w3 hv1
    obtain ⟨rfl, hB3⟩ := res_bool hv1
    have hC3 := hC1.grow hB3
    refine WL_move rfl rfl ?_
    refine WL_fork (fun hc1 => ?_) (fun hc1 => ?_)
    · replace hr1 := ite_t hr1 hc1
      refine WL_guard rfl rfl ?_
      refine WL_field Try.underlying41 rfl rfl (fun w => ⟨_, Try.sizeOf3 w⟩) rfl rfl ?_
      refine WL_guard rfl rfl ?_
      refine WL_load_box hC3 0 rfl rfl Try.isAgg3 rfl rfl ?_
      obtain ⟨x3, hr3, hr1⟩ := bind_some hr1
      refine WL_guard rfl rfl ?_
      refine WL_call Try.call84 rfl rfl (c_M_within a1.2 1 99 x3 hr3) ?_
      intro _ w4 hv2
      obtain ⟨rfl, hB4⟩ := res_bool hv2
      have hC4 := hC3.grow hB4
      refine WL_pick_t rfl rfl rfl ?_
      refine WL_assign rfl rfl ?_
      refine WL_nil ?_
      have hq1 := Option.some.inj hr1
      subst hq1
      have hC5 : Ctx [] w0 _ [] := hC4.headN 0
      refine nrm_sub (l' := [(2, (.bool x3))]) ⟨rfl, trivial⟩ ?_
      exact ⟨x3, rfl, rfl, ((Keep.of hB3).then hB4).below, hC5⟩
    · replace hr1 := ite_f hr1 hc1
      refine WL_guard_skip rfl rfl (by simp) rfl ?_
      refine WL_guard_skip rfl rfl (by simp) rfl ?_
      refine WL_guard_skip rfl rfl (by simp) rfl ?_
      refine WL_pick_f rfl rfl rfl ?_
      refine WL_assign rfl rfl ?_
      refine WL_nil ?_
      have hq2 := Option.some.inj hr1
      subst hq2
      have hC6 : Ctx [] w0 _ [] := hC3.headN 0
      refine nrm_sub (l' := [(2, (.bool false))]) ⟨rfl, trivial⟩ ?_
      exact ⟨false, rfl, rfl, (Keep.of hB3).below, hC6⟩
  · rintro _ w2 ⟨x1, rfl, rfl, hB2, hC2⟩
    try dsimp only at hF
    refine W_ret ?_
    have hq3 := Option.some.inj hF
    subst hq3
    refine fn_ret1 rfl rfl ?_
    exact ⟨_, rfl, bool_res hC2 _⟩

theorem c_M_isTime {w0 : World} (a1 : Int) (rr : Bool) (hF : M.isTime a1 = some rr) :
    Calls Try.prog 85 [(.int .i64 a1)].toArray w0 fun e w' => ∃ v, e = .returned v ∧ Res w0 rr v w' := by
  refine calls_of_W Try.func85 rfl rfl ?_
  have hC0 := Ctx.start w0
  unfold M.isTime at hF
  refine W_seq_reg ?_
  refine WL_assign rfl rfl ?_
  refine WL_nil ?_
  refine W_seq_reg ?_
  refine WL_move rfl rfl ?_
  obtain ⟨x1, hr1, hF⟩ := bind_some hF
  refine WL_call Try.call84 rfl rfl (c_M_within a1 0 10000 x1 hr1) ?_
  intro _ w1 hv1
  obtain ⟨rfl, hB1⟩ := res_bool hv1
  have hC1 := hC0.grow hB1
  refine WL_assign rfl rfl ?_
  refine WL_nil ?_
  refine W_ret ?_
  have hq1 := Option.some.inj hF
  subst hq1
  refine fn_ret1 rfl rfl ?_
  exact ⟨_, rfl, bool_res hC1 _⟩

theorem c_M_Window_next {w0 : World} (a1 : (Int × Int)) (a2 : (List Int)) (u1 : Value) (g1 : RO [] w0 u1 a2) (a3 : Int) (rr : (Int × Bool)) (hF : M.Window_next a1 a2 a3 = some rr) :
    Calls Try.prog 86 [(.agg #[(.int .i64 a1.1), (.int .i64 a1.2)]), u1, (.int .i64 a3)].toArray w0 fun e w' => ∃ v, e = .returned v ∧ Res2 w0 rr.1 rr.2 v w' := by
  refine calls_of_W Try.func86 rfl rfl ?_
  have hC0 := Ctx.start w0
  unfold M.Window_next at hF
  refine W_seq_reg ?_
  refine WL_box (cs := [(.int .i64 a1.1), (.int .i64 a1.2)]) hC0 rfl rfl rfl (fun b1 w1 hC1 hB1 => ?_)
  refine WL_assign rfl rfl ?_
  refine WL_assign rfl rfl ?_
  refine WL_nil ?_
  refine W_seq_reg ?_
  refine WL_move rfl rfl ?_
  refine WL_assign rfl rfl ?_
  refine WL_nil ?_
  refine W_seq_reg ?_
  refine WL_move rfl rfl ?_
  refine WL_len Try.underlying27 g1 rfl rfl ?_
  refine WL_assign rfl rfl ?_
  refine WL_nil ?_
  refine W_seq ?_
  refine W_seq_reg ?_
  refine WL_move rfl rfl ?_
  refine WL_gtr rfl rfl rfl ?_
  refine WL_nil ?_
  obtain ⟨r1, hr1, hF⟩ := bind_some hF
  refine W_norm (fun l w => ∃ x1 : Int, x1 = r1 ∧ l = [(1, u1), (3, (ptr b1 0)), (8, (.int .i64 x1)), (9, (.int .i64 (List.length a2 : Int)))] ∧ Below w1.heap.size w1 w ∧ Ctx [] w0 w [Item.box b1 [(.int .i64 a1.1), (.int .i64 a1.2)]]) ?_ ?_
  · refine W_cond rfl (fun hc1 => ?_) (fun hc1 => ?_)
    · replace hr1 := ite_t hr1 hc1
      refine W_reg ?_
      refine WL_move rfl rfl ?_
      refine WL_move rfl rfl ?_
      refine WL_move rfl rfl ?_
      refine WL_sub rfl rfl rfl ?_
      obtain ⟨x2, hx1, hr1⟩ := bind_some hr1
      refine WL_index Try.underlying27 ty3 g1 hx1 rfl rfl rfl (fun b2 o1 h1 => ?_)
      refine WL_load ty3 h1 hC1.keep rfl rfl (fun v1 h2 => ?_)
      obtain rfl := ro_int h2
      refine WL_max rfl rfl rfl ?_
      refine WL_assign rfl rfl ?_
      refine WL_nil ?_
      have hq1 := Option.some.inj hr1
      subst hq1
      refine nrm_sub (l' := [(1, u1), (3, (ptr b1 0)), (8, (.int .i64 (if x2 > a3 then x2 else a3))), (9, (.int .i64 (List.length a2 : Int)))]) ⟨rfl, rfl, rfl, rfl, trivial⟩ ?_
      exact ⟨if x2 > a3 then x2 else a3, rfl, rfl, (Below.refl _ _), hC1⟩
    · replace hr1 := ite_f hr1 hc1
      refine W_skip ?_
      have hq2 := Option.some.inj hr1
      subst hq2
      refine nrm_sub (l' := [(1, u1), (3, (ptr b1 0)), (8, (.int .i64 a3)), (9, (.int .i64 (List.length a2 : Int)))]) ⟨rfl, rfl, rfl, rfl, trivial⟩ ?_
      exact ⟨a3, rfl, rfl, (Below.refl _ _), hC1⟩
  · rintro l1 _ w2 hs1 ⟨x1, rfl, rfl, hB2, hC2⟩
    try dsimp only at hF
    refine nrm_sub' hs1 ?_
    clear hs1
    refine W_seq ?_
    refine W_seq_reg ?_
    refine WL_move rfl rfl ?_
    refine WL_field Try.underlying41 rfl rfl (fun w => ⟨_, Try.sizeOf3 w⟩) rfl rfl ?_
    refine WL_load_box hC2 0 rfl rfl Try.isAgg3 rfl rfl ?_
    refine WL_geq rfl rfl rfl ?_
    refine WL_nil ?_
    obtain ⟨r2, hr2, hF⟩ := bind_some hF
    refine W_norm (fun l w => ∃ x3 : Int, x3 = r2 ∧ l = [(8, (.int .i64 x3))] ∧ Below w2.heap.size w2 w ∧ Ctx [] w0 w []) ?_ ?_
    · refine W_cond rfl (fun hc2 => ?_) (fun hc2 => ?_)
      · replace hr2 := ite_t hr2 hc2
        refine W_drawn 13 rfl hmix (fun w4 hB4 => ?_)
        have hC4 := hC2.grow hB4
        refine WA_take 0 rfl (by kernel_rfl) (by kernel_rfl) (by kernel_rfl) rfl (fl_move rfl) ?_
        refine WL_move rfl rfl ?_
        refine WL_nil ?_
        refine WA_take 1 rfl (by kernel_rfl) (by kernel_rfl) (by kernel_rfl) rfl (fl_move rfl) ?_
        refine WL_move rfl rfl ?_
        refine WL_nil ?_
        refine WA_take 2 rfl (by kernel_rfl) (by kernel_rfl) (by kernel_rfl) rfl (fl_move rfl) ?_
        refine WL_move rfl rfl ?_
        refine WL_nil ?_
        refine WA_take 3 rfl (by kernel_rfl) (by kernel_rfl) (by kernel_rfl) rfl (fl_field Try.underlying41 rfl rfl (fun w => ⟨_, Try.sizeOf3 w⟩) rfl) ?_
        refine WL_field Try.underlying41 rfl rfl (fun w => ⟨_, Try.sizeOf3 w⟩) rfl rfl ?_
        refine WL_nil ?_
        refine WA_take 8 rfl (by kernel_rfl) (by kernel_rfl) (by kernel_rfl) rfl (fl_field Try.underlying41 rfl rfl (fun w => ⟨_, Try.sizeOf3 w⟩) rfl) ?_
        refine WL_field Try.underlying41 rfl rfl (fun w => ⟨_, Try.sizeOf3 w⟩) rfl rfl ?_
        refine WL_nil ?_
        obtain ⟨x4, hx2, hr2⟩ := bind_some hr2
        refine WA.sub (l' := [(1, u1), (3, (ptr b1 0)), (8, (.int .i64 x1)), (9, (.int .i64 (List.length a2 : Int))), (22, (.int .i64 (List.length a2 : Int))), (23, (ptr b1 1)), (24, (.int .i64 a1.2)), (25, (.bool (decide (a1.2 ≤ (List.length a2 : Int))))), (26, (.int .i64 x1)), (27, u1), (28, (.int .i64 (List.length a2 : Int))), (29, (ptr b1 1)), (34, (ptr b1 0))]) ?_ ⟨rfl, rfl, rfl, rfl, rfl, rfl, rfl, rfl, rfl, rfl, rfl, rfl, rfl, trivial⟩
        refine WA_postsE [⟨4, [], fun vs => PW.val (.int .i64 a1.2), []⟩, ⟨5, [], fun vs => PW.val (.int .i64 (w64 ((List.length a2 : Int) - a1.2))), []⟩, ⟨6, [], fun vs => PW.at [] w0 x4, []⟩, ⟨7, [], fun vs => PW.val (.int .i64 x4), []⟩, ⟨9, [], fun vs => PW.val (.int .i64 a1.1), []⟩] [[], [4], [5], [6], []] 3 rfl (by kernel_rfl) (by kernel_rfl) rfl ?_ ?_
        · refine StepsE_cons rfl ?_ ?_
          · intro w5 hB5
            refine DepsE_nil ?_
            refine ⟨_, rfl, ?_⟩
            refine WL_load_box (hC4.grow hB5) 0 rfl rfl Try.isAgg3 rfl rfl ?_
            refine WL_nil ?_
            exact FinE_val (Below.refl _ _) rfl rfl ⟨rfl, rfl⟩
          refine StepsE_cons rfl ?_ ?_
          · intro w5 hB5
            refine DepsE_cons rfl rfl rfl ?_
            rintro _ _ ⟨rfl, rfl⟩ _
            refine DepsE_nil ?_
            refine ⟨_, rfl, ?_⟩
            refine WL_sub rfl rfl rfl ?_
            refine WL_nil ?_
            exact FinE_val (Below.refl _ _) rfl rfl ⟨rfl, rfl⟩
          refine StepsE_cons rfl ?_ ?_
          · intro w5 hB5
            refine DepsE_cons rfl rfl rfl ?_
            rintro _ _ ⟨rfl, rfl⟩ _
            refine DepsE_nil ?_
            refine ⟨_, rfl, ?_⟩
            refine WL_index Try.underlying27 ty3 g1 hx2 rfl rfl rfl (fun b3 o2 h3 => ?_)
            refine WL_nil ?_
            exact FinE_val (Below.refl _ _) rfl rfl ⟨rfl, _, _, rfl, h3⟩
          refine StepsE_cons rfl ?_ ?_
          · intro w5 hB5
            refine DepsE_cons rfl rfl rfl ?_
            rintro _ _ ⟨rfl, b3, o2, rfl, h3⟩ _
            refine DepsE_nil ?_
            refine ⟨_, rfl, ?_⟩
            refine WL_load ty3 h3 (hC4.keep.then hB5) rfl rfl (fun v2 h4 => ?_)
            obtain rfl := ro_int h4
            refine WL_nil ?_
            exact FinE_val (Below.refl _ _) rfl rfl ⟨rfl, rfl⟩
          refine StepsE_cons rfl ?_ ?_
          · intro w5 hB5
            refine DepsE_nil ?_
            refine ⟨_, rfl, ?_⟩
            refine WL_load_box (hC4.grow hB5) 0 rfl rfl Try.isAgg3 rfl rfl ?_
            refine WL_nil ?_
            exact FinE_val (Below.refl _ _) rfl rfl ⟨rfl, rfl⟩
          exact StepsE_nil
        · intro w6 hB6
          refine AllE_cons rfl rfl rfl ?_
          rintro _ _ ⟨rfl, rfl⟩
          refine AllE_cons rfl rfl rfl ?_
          rintro _ _ ⟨rfl, rfl⟩
          refine AllE_cons rfl rfl rfl ?_
          rintro _ _ ⟨rfl, b3, o2, rfl, h3⟩
          refine AllE_cons rfl rfl rfl ?_
          rintro _ _ ⟨rfl, rfl⟩
          refine AllE_cons rfl rfl rfl ?_
          rintro _ _ ⟨rfl, rfl⟩
          refine AllE_nil ?_
          intro hn1 hb1
          have hC5 := hC4.grow hB6
          refine WA_take 10 rfl (by kernel_rfl) (by kernel_rfl) (by kernel_rfl) rfl (fl_add rfl rfl) ?_
          refine WL_add rfl rfl rfl ?_
          refine WL_nil ?_
          refine WA_take 11 rfl (by kernel_rfl) (by kernel_rfl) (by kernel_rfl) rfl (fl_max rfl rfl) ?_
          refine WL_max rfl rfl rfl ?_
          refine WL_nil ?_
          refine WA_take 12 rfl (by kernel_rfl) (by kernel_rfl) (by kernel_rfl) rfl (fl_assign rfl) ?_
          refine WL_assign rfl rfl ?_
          refine WL_nil ?_
          refine WA_done (by kernel_rfl) ?_
          have hq3 := Option.some.inj hr2
          subst hq3
          have hC6 : Ctx [] w0 _ [] := hC5.headN 0
          refine nrm_sub (l' := [(8, (.int .i64 (if (w64 (x4 + a1.1)) > x1 then w64 (x4 + a1.1) else x1)))]) ⟨rfl, trivial⟩ ?_
          exact ⟨if (w64 (x4 + a1.1)) > x1 then w64 (x4 + a1.1) else x1, rfl, rfl, ((Keep.of hB4).then hB6).below, hC6⟩
      · replace hr2 := ite_f hr2 hc2
        refine W_skip ?_
        have hq4 := Option.some.inj hr2
        subst hq4
        have hC7 : Ctx [] w0 _ [] := hC2.headN 0
        refine nrm_sub (l' := [(8, (.int .i64 x1))]) ⟨rfl, trivial⟩ ?_
        exact ⟨x1, rfl, rfl, (Below.refl _ _), hC7⟩
    · rintro l2 _ w3 hs2 ⟨x3, rfl, rfl, hB3, hC3⟩
      try dsimp only at hF
      refine nrm_sub' hs2 ?_
      clear hs2
      refine W_seq ?_
      refine W_seq_reg ?_
      refine WL_move rfl rfl ?_
      refine WL_gtr rfl rfl rfl ?_
      refine WL_nil ?_
      refine W_cond rfl (fun hc3 => ?_) (fun hc3 => ?_)
      · replace hF := ite_t hF hc3
        refine W_seq_reg ?_
        refine WL_assign rfl rfl ?_
        refine WL_assign rfl rfl ?_
        refine WL_nil ?_
        refine W_ret ?_
        refine nrm_ret ?_
        have hq5 := Option.some.inj hF
        subst hq5
        refine fn_ret2 rfl rfl rfl ?_
        have hC8 := hC3.triv (bool_val (false))
        have hC9 := hC8.triv (int_val (0))
        exact ⟨_, rfl, res2_of hC9⟩
      · replace hF := ite_f hF hc3
        refine W_skip ?_
        refine nrm_normal ?_
        refine W_seq_reg ?_
        refine WL_move rfl rfl ?_
        refine WL_assign rfl rfl ?_
        refine WL_assign rfl rfl ?_
        refine WL_nil ?_
        refine W_ret ?_
        have hq6 := Option.some.inj hF
        subst hq6
        refine fn_ret2 rfl rfl rfl ?_
        have hC10 := hC3.triv (bool_val (true))
        have hC11 := hC10.triv (int_val (x3))
        exact ⟨_, rfl, res2_of hC11⟩

theorem c_M_ScheduleCalls {w0 : World} (a1 : Int) (a2 : (Int × Int)) (a3 : Int) (rr : ((List Int) × Bool)) (hF : M.ScheduleCalls a1 a2 a3 = some rr) :
    Calls Try.prog 32 [(.int .i64 a1), (.agg #[(.int .i64 a2.1), (.int .i64 a2.2)]), (.int .i64 a3)].toArray w0 fun e w' => ∃ v, e = .returned v ∧ Res2 w0 rr.1 rr.2 v w' := by
  refine calls_of_W Try.func32 rfl rfl ?_
  have hC0 := Ctx.start w0
  unfold M.ScheduleCalls at hF
  refine W_seq_reg ?_
  refine WL_box (cs := [(.int .i64 a2.1), (.int .i64 a2.2)]) hC0 rfl rfl rfl (fun b1 w1 hC1 hB1 => ?_)
  refine WL_assign rfl rfl ?_
  refine WL_assign rfl rfl ?_
  refine WL_nil ?_
  refine W_seq ?_
  obtain ⟨r1, hr1, hF⟩ := bind_some hF
  refine W_cut (fun l w => ∃ x1 : Bool, x1 = r1 ∧ l = [(0, (.int .i64 a1)), (2, (.int .i64 a3)), (4, (ptr b1 0)), (23, (.bool x1))] ∧ Below w1.heap.size w1 w ∧ Ctx [] w0 w [Item.box b1 [(.int .i64 a2.1), (.int .i64 a2.2)]]) ?_ ?_
  · refine W_reg ?_
    refine WL_move rfl rfl ?_
    obtain ⟨x2, hr2, hr1⟩ := bind_some hr1
    refine WL_call Try.call84 rfl rfl (c_M_within a1 0 100 x2 hr2) ?_
    intro _ w3 hv1
    obtain ⟨rfl, hB3⟩ := res_bool hv1
    have hC3 := hC1.grow hB3
    refine WL_not rfl rfl ?_
    refine WL_move rfl rfl ?_
    refine WL_fork (fun hc1 => ?_) (fun hc1 => ?_)
    · replace hr1 := ite_t hr1 hc1
      refine WL_guard_skip rfl rfl (by simp) rfl ?_
      refine WL_guard_skip rfl rfl (by simp) rfl ?_
      refine WL_guard_skip rfl rfl (by simp) rfl ?_
      refine WL_pick_t rfl rfl rfl ?_
      refine WL_move rfl rfl ?_
      refine WL_guard_skip rfl rfl (by simp) rfl ?_
      refine WL_guard_skip rfl rfl (by simp) rfl ?_
      refine WL_guard_skip rfl rfl (by simp) rfl ?_
      refine WL_pick_t rfl rfl rfl ?_
      refine WL_nil ?_
      have hq1 := Option.some.inj hr1
      subst hq1
      refine nrm_sub (l' := [(0, (.int .i64 a1)), (2, (.int .i64 a3)), (4, (ptr b1 0)), (23, (.bool true))]) ⟨rfl, rfl, rfl, rfl, trivial⟩ ?_
      exact ⟨true, rfl, rfl, (Keep.of hB3).below, hC3⟩
    · replace hr1 := ite_f hr1 hc1
      refine WL_guard rfl rfl ?_
      refine WL_load_box_agg [(.int .i64 a2.1), (.int .i64 a2.2)] hC3 0 rfl rfl rfl Try.isAgg41 Try.sizeOf41 rfl rfl ?_
      obtain ⟨x3, hr3, hr1⟩ := bind_some hr1
      refine WL_guard rfl rfl ?_
      refine WL_call Try.call63 rfl rfl (c_M_IsWindow (a2.1, a2.2) x3 hr3) ?_
      intro _ w4 hv2
      obtain ⟨rfl, hB4⟩ := res_bool hv2
      have hC4 := hC3.grow hB4
      refine WL_guard rfl rfl ?_
      refine WL_not rfl rfl ?_
      refine WL_pick_f rfl rfl rfl ?_
      refine WL_move rfl rfl ?_
      refine WL_fork (fun hc2 => ?_) (fun hc2 => ?_)
      · replace hr1 := ite_t hr1 hc2
        refine WL_guard_skip rfl rfl (by simp) rfl ?_
        refine WL_guard_skip rfl rfl (by simp) rfl ?_
        refine WL_guard_skip rfl rfl (by simp) rfl ?_
        refine WL_pick_t rfl rfl rfl ?_
        refine WL_nil ?_
        have hq2 := Option.some.inj hr1
        subst hq2
        refine nrm_sub (l' := [(0, (.int .i64 a1)), (2, (.int .i64 a3)), (4, (ptr b1 0)), (23, (.bool true))]) ⟨rfl, rfl, rfl, rfl, trivial⟩ ?_
        exact ⟨true, rfl, rfl, ((Keep.of hB3).then hB4).below, hC4⟩
      · replace hr1 := ite_f hr1 hc2
        refine WL_guard rfl rfl ?_
        refine WL_move rfl rfl ?_
        obtain ⟨x4, hr4, hr1⟩ := bind_some hr1
        refine WL_guard rfl rfl ?_
        refine WL_call Try.call85 rfl rfl (c_M_isTime a3 x4 hr4) ?_
        intro _ w5 hv3
        obtain ⟨rfl, hB5⟩ := res_bool hv3
        have hC5 := hC4.grow hB5
        refine WL_guard rfl rfl ?_
        refine WL_not rfl rfl ?_
        refine WL_pick_f rfl rfl rfl ?_
        refine WL_nil ?_
        have hq3 := Option.some.inj hr1
        subst hq3
        refine nrm_sub (l' := [(0, (.int .i64 a1)), (2, (.int .i64 a3)), (4, (ptr b1 0)), (23, (.bool (!x4)))]) ⟨rfl, rfl, rfl, rfl, trivial⟩ ?_
        exact ⟨(!x4), rfl, rfl, (((Keep.of hB3).then hB4).then hB5).below, hC5⟩
  · rintro _ w2 ⟨x1, rfl, rfl, hB2, hC2⟩
    try dsimp only at hF
    refine W_cond rfl (fun hc3 => ?_) (fun hc3 => ?_)
    · replace hF := ite_t hF hc3
      refine W_seq_reg ?_
      refine WL_assign rfl rfl ?_
      refine WL_assign rfl rfl ?_
      refine WL_nil ?_
      refine W_ret ?_
      refine nrm_ret ?_
      have hq4 := Option.some.inj hF
      subst hq4
      refine fn_ret2 rfl rfl rfl ?_
      have hC6 := hC2.triv (bool_val (false))
      have hC7 := hC6.triv (nil_val (α := Int))
      exact ⟨_, rfl, res2_of hC7⟩
    · replace hF := ite_f hF hc3
      refine W_skip ?_
      refine nrm_normal ?_
      refine W_seq_reg ?_
      refine WL_buildSlice (vs := []) hC2 Try.underlying27 ty3 rfl rfl rfl rfl (by simp) rfl rfl (fun b2 w6 hC8 hB6 => ?_)
      have hC9 := hC8.row0 (α := Int)
      have hC10 := hC9.front 1 rfl
      dsimp only [List.eraseIdx] at hC10
      have hC11 : Ctx [] w0 w6 (Item.own (.slice (some ⟨b2, 0, none⟩) 0 0) (([] : List Int) : List Int) :: [Item.box b1 [(.int .i64 a2.1), (.int .i64 a2.2)]]) := hC10.rowOwn (by simp [maxLen])
      refine WL_assign rfl rfl ?_
      refine WL_nil ?_
      refine W_seq ?_
      refine W_seq_reg ?_
      refine WL_move rfl rfl ?_
      refine WL_move rfl rfl ?_
      refine WL_nil ?_
      obtain ⟨r2, hr5, hF⟩ := bind_some hF
      refine W_norm (fun l w => ∃ v2 : Value, ∃ x7 : (List Int), .inl x7 = r2 ∧ l = [(8, v2)] ∧ Ctx [] w0 w [Item.own v2 (x7 : (List Int))]) ?_ ?_
      · refine W_block ?_
        refine W.sub (l' := [(2, (.int .i64 a3)), (4, (ptr b1 0)), (8, (.slice (some ⟨b2, 0, none⟩) 0 0)), (25, (.int .i64 a1)), (26, (.int .i64 0))]) ?_ ⟨rfl, rfl, rfl, rfl, rfl, trivial⟩
        refine W_loop (fun k l w => ∃ v1 : Value, ∃ x5 : (List Int), ∃ x6 : Int, l = [(2, (.int .i64 a3)), (4, (ptr b1 0)), (8, v1), (25, (.int .i64 a1)), (26, (.int .i64 x6))] ∧ Ctx [] w0 w [Item.own v1 (x5 : (List Int)), Item.box b1 [(.int .i64 a2.1), (.int .i64 a2.2)]] ∧ M.ScheduleCalls_l1 a1 a2 a3 k x5 x6 = some r2) FUEL ⟨(.slice (some ⟨b2, 0, none⟩) 0 0), ([] : List Int), 0, rfl, hC11, hr5⟩ ?_
        clear hr5
        rintro k1 _ w7 ⟨v1, x5, x6, rfl, hC12, hL1⟩
        cases k1 with
        | zero => rw [M.ScheduleCalls_l1] at hL1; cases hL1
        | succ k1 =>
          rw [M.ScheduleCalls_l1] at hL1
          refine W_seq_reg ?_
          refine WL_lss rfl rfl rfl ?_
          refine WL_nil ?_
          refine W_seq ?_
          refine W_cond rfl (fun hc4 => ?_) (fun hc4 => ?_)
          · replace hL1 := ite_t hL1 hc4
            refine W_skip ?_
            refine nrm_normal ?_
            refine W_seq ?_
            refine W_block ?_
            refine W_seq_reg ?_
            refine WL_load_box_agg [(.int .i64 a2.1), (.int .i64 a2.2)] hC12 1 rfl rfl rfl Try.isAgg41 Try.sizeOf41 rfl rfl ?_
            refine WL_move rfl rfl ?_
            refine WL_move rfl rfl ?_
            obtain ⟨x8, hr6, hL1⟩ := bind_some hL1
            refine WL_call Try.call86 rfl rfl (c_M_Window_next (a2.1, a2.2) x5 v1 ((hC12.ro 0 rfl).now (Keep.refl _ _)) a3 x8 hr6) ?_
            rintro _ w8 ⟨hB8, v3, v4, F1, F2, rfl, hv4, hv5, hn1, hb1⟩
            obtain ⟨rfl, rfl⟩ := val_int hv4
            obtain ⟨rfl, rfl⟩ := val_bool hv5
            have hC13 := hC12.grow hB8
            refine WL_move rfl rfl ?_
            refine WL_extract rfl rfl rfl ?_
            refine WL_extract rfl rfl rfl ?_
            refine WL_assign rfl rfl ?_
            refine WL_assign rfl rfl ?_
            refine WL_nil ?_
            refine W_seq ?_
            refine W_seq_reg ?_
            refine WL_move rfl rfl ?_
            refine WL_not rfl rfl ?_
            refine WL_nil ?_
            refine W_cond rfl (fun hc5 => ?_) (fun hc5 => ?_)
            · replace hL1 := ite_t hL1 hc5
              refine W_seq_reg ?_
              refine WL_assign rfl rfl ?_
              refine WL_assign rfl rfl ?_
              refine WL_nil ?_
              refine W_ret ?_
              refine nrm_ret ?_
              refine blk_ret ?_
              refine nrm_ret ?_
              refine nrm_ret ?_
              refine blk_ret ?_
              refine nrm_ret ?_
              refine nrm_ret ?_
              have hq5 := Option.some.inj hL1
              subst hq5
              dsimp only at hF
              have hq6 := Option.some.inj hF
              subst hq6
              refine fn_ret2 rfl rfl rfl ?_
              have hC14 := hC13.triv (bool_val (false))
              have hC15 := hC14.triv (nil_val (α := Int))
              exact ⟨_, rfl, res2_of hC15⟩
            · replace hL1 := ite_f hL1 hc5
              refine W_skip ?_
              refine nrm_normal ?_
              refine W_reg ?_
              refine WL_move rfl rfl ?_
              refine WL_move rfl rfl ?_
              refine WL_buildSlice (vs := [(.int .i64 x8.1)]) hC13 Try.underlying27 ty3 rfl rfl rfl rfl (by intro v hv; simp only [List.mem_cons, List.not_mem_nil, or_false] at hv; rcases hv with rfl <;> rfl) rfl rfl (fun b3 w9 hC16 hB9 => ?_)
              have hC17 := hC16.row0 (α := Int)
              have hC18 := hC17.triv (int_val (x8.1))
              have hC19 := hC18.row1
              have hC20 := hC19.front 1 rfl
              dsimp only [List.eraseIdx] at hC20
              have hC21 : Ctx [] w0 w9 (Item.own (.slice (some ⟨b3, 0, none⟩) 1 1) ([x8.1] : List Int) :: [Item.own v1 (x5 : (List Int)), Item.box b1 [(.int .i64 a2.1), (.int .i64 a2.2)]]) := hC20.rowOwn (by simp [maxLen])
              obtain ⟨x9, hx1, hL1⟩ := bind_some hL1
              refine WL_append_flat (α := Int) hC21 1 rfl (hC21.ro 0 rfl) (Keep.refl _ _) Try.underlying27 ty3 rfl hx1 rfl rfl rfl (fun v5 w10 hC22 => ?_)
              try dsimp only [List.set] at hC22
              refine WL_assign rfl rfl ?_
              refine WL_nil ?_
              refine blk_normal ?_
              refine nrm_normal ?_
              refine W_reg ?_
              refine WL_add rfl rfl rfl ?_
              refine WL_move rfl rfl ?_
              refine WL_nil ?_
              have hC23 : Ctx [] w0 _ [Item.box b1 [(.int .i64 a2.1), (.int .i64 a2.2)], Item.own (.slice (some ⟨b3, 0, none⟩) 1 1) ([x8.1] : (List Int)), Item.own v5 (x9 : (List Int))] := hC22.front 2 rfl
              have hC24 : Ctx [] w0 _ [Item.own v5 (x9 : (List Int)), Item.box b1 [(.int .i64 a2.1), (.int .i64 a2.2)], Item.own (.slice (some ⟨b3, 0, none⟩) 1 1) ([x8.1] : (List Int))] := hC23.front 2 rfl
              have hC25 : Ctx [] w0 _ [Item.own v5 (x9 : (List Int)), Item.box b1 [(.int .i64 a2.1), (.int .i64 a2.2)]] := hC24.headN 2
              refine nrm_sub (l' := [(2, (.int .i64 a3)), (4, (ptr b1 0)), (8, v5), (25, (.int .i64 a1)), (26, (.int .i64 (w64 (x6 + 1))))]) ⟨rfl, rfl, rfl, rfl, rfl, trivial⟩ ?_
              exact ⟨k1, Nat.lt_succ_self _, v5, x9, w64 (x6 + 1), rfl, hC25, hL1⟩
          · replace hL1 := ite_f hL1 hc4
            refine W_exit ?_
            refine nrm_exit ?_
            refine nrm_exit ?_
            refine blk_exit ?_
            have hq7 := Option.some.inj hL1
            subst hq7
            have hC26 : Ctx [] w0 _ [Item.own v1 (x5 : (List Int))] := hC12.headN 1
            refine nrm_sub (l' := [(8, v1)]) ⟨rfl, trivial⟩ ?_
            exact ⟨v1, x5, rfl, rfl, hC26⟩
      · rintro l3 _ w11 hs3 ⟨v2, x7, rfl, rfl, hC27⟩
        try dsimp only at hF
        refine nrm_sub' hs3 ?_
        clear hs3
        refine W_seq_reg ?_
        refine WL_move rfl rfl ?_
        refine WL_assign rfl rfl ?_
        refine WL_assign rfl rfl ?_
        refine WL_nil ?_
        refine W_ret ?_
        have hq8 := Option.some.inj hF
        subst hq8
        refine fn_ret2 rfl rfl rfl ?_
        have hC28 := hC27.triv (bool_val (true))
        have hC29 : Ctx [] w0 _ [Item.own v2 (x7 : (List Int)), Item.own (.bool true) (true : Bool)] := hC28.front 1 rfl
        exact ⟨_, rfl, res2_of hC29⟩

theorem c_Q_markIntS {w0 : World} {Fs : List (List Nat)} (a1 : (List Int)) (u1 : Value) (a2 : Int) (hH : Hold [Item.own u1 (a1 : (List Int))] w0 Fs) (hn : Fs.flatten.Nodup) (rr : (Int × (List Int))) (hF : Q.markIntS a1 a2 = some rr) :
    Calls Try.prog 33 [u1, (.int .i64 a2)].toArray w0 fun e w' => ∃ v, e = .returned v ∧ v = (.int .i64 rr.1) ∧ Ctx Fs.flatten w0 w' [Item.own u1 (rr.2 : (List Int))] := by
  refine calls_of_W Try.func33 rfl rfl ?_
  have hC0 := Ctx.startIn hH hn
  unfold Q.markIntS at hF
  refine W_seq_reg ?_
  refine WL_assign rfl rfl ?_
  refine WL_nil ?_
  refine W_seq ?_
  refine W_seq_reg ?_
  refine WL_assign rfl rfl ?_
  refine WL_nil ?_
  obtain ⟨r1, hr1, hF⟩ := bind_some hF
  refine W_norm (fun l w => ∃ x4 : (List Int), ∃ x5 : Int, (x4, x5) = r1 ∧ l = [(1, (.int .i64 x5))] ∧ Ctx Fs.flatten w0 w [Item.own u1 (x4 : (List Int))]) ?_ ?_
  · refine W_block ?_
    refine W.sub (l' := [(0, u1), (1, (.int .i64 a2)), (5, (.int .i64 0))]) ?_ ⟨rfl, rfl, rfl, trivial⟩
    refine W_loop (fun k l w => ∃ x1 : (List Int), ∃ x2 : Int, ∃ x3 : Int, l = [(0, u1), (1, (.int .i64 x2)), (5, (.int .i64 x3))] ∧ Ctx Fs.flatten w0 w [Item.own u1 (x1 : (List Int))] ∧ Q.markIntS_l1 k x1 x2 x3 = some r1) FUEL ⟨a1, a2, 0, rfl, hC0, hr1⟩ ?_
    clear hr1
    rintro k1 _ w1 ⟨x1, x2, x3, rfl, hC1, hL1⟩
    cases k1 with
    | zero => rw [Q.markIntS_l1] at hL1; cases hL1
    | succ k1 =>
      rw [Q.markIntS_l1] at hL1
      refine W_seq ?_
      refine W_seq_reg ?_
      refine WL_move rfl rfl ?_
      refine WL_move rfl rfl ?_
      refine WL_len Try.underlying27 (hC1.ro 0 rfl) rfl rfl ?_
      refine WL_lss rfl rfl rfl ?_
      refine WL_nil ?_
      refine W_cond rfl (fun hc1 => ?_) (fun hc1 => ?_)
      · replace hL1 := ite_t hL1 hc1
        refine W_skip ?_
        refine nrm_normal ?_
        refine W_seq ?_
        refine W_block ?_
        refine W_seq_reg ?_
        refine WL_move rfl rfl ?_
        refine WL_move rfl rfl ?_
        refine WL_move rfl rfl ?_
        obtain ⟨x6, hx1, hL1⟩ := bind_some hL1
        refine WL_index_own hC1 0 rfl Try.underlying27 ty3 hx1 rfl rfl rfl (fun b1 hE1 => ?_)
        have hC3 := hC1.triv (int_val (x2))
        refine WL_store_elem hC3 0 rfl ty3 hE1 hx1 rfl rfl rfl (fun w2 hC2 => ?_)
        try dsimp only [List.set] at hC2
        refine WL_nil ?_
        refine W_reg ?_
        refine WL_move rfl rfl ?_
        refine WL_add rfl rfl rfl ?_
        refine WL_assign rfl rfl ?_
        refine WL_nil ?_
        refine blk_normal ?_
        refine nrm_normal ?_
        refine W_reg ?_
        refine WL_move rfl rfl ?_
        refine WL_add rfl rfl rfl ?_
        refine WL_assign rfl rfl ?_
        refine WL_nil ?_
        refine nrm_sub (l' := [(0, u1), (1, (.int .i64 (w64 (x2 + 1)))), (5, (.int .i64 (w64 (x3 + 1))))]) ⟨rfl, rfl, rfl, trivial⟩ ?_
        exact ⟨k1, Nat.lt_succ_self _, (List.set x1 (Int.toNat x3) x2), w64 (x2 + 1), w64 (x3 + 1), rfl, hC2, hL1⟩
      · replace hL1 := ite_f hL1 hc1
        refine W_exit ?_
        refine nrm_exit ?_
        refine nrm_exit ?_
        refine blk_exit ?_
        have hq1 := Option.some.inj hL1
        subst hq1
        refine nrm_sub (l' := [(1, (.int .i64 x2))]) ⟨rfl, trivial⟩ ?_
        exact ⟨x1, x2, rfl, rfl, hC1⟩
  · rintro l2 _ w3 hs2 ⟨x4, x5, rfl, rfl, hC4⟩
    try dsimp only at hF
    refine nrm_sub' hs2 ?_
    clear hs2
    refine W_seq_reg ?_
    refine WL_move rfl rfl ?_
    refine WL_assign rfl rfl ?_
    refine WL_nil ?_
    refine W_ret ?_
    have hq2 := Option.some.inj hF
    subst hq2
    refine fn_ret1 rfl rfl ?_
    exact ⟨_, rfl, rfl, hC4⟩

theorem c_Q_heldIntS {w0 : World} (a1 : (List Int)) (u1 : Value) (g1 : RO [] w0 u1 a1) (a2 : Int) (rr : Int) (hF : Q.heldIntS a1 a2 = some rr) :
    Calls Try.prog 34 [u1, (.int .i64 a2)].toArray w0 fun e w' => ∃ v, e = .returned v ∧ Res w0 rr v w' := by
  refine calls_of_W Try.func34 rfl rfl ?_
  have hC0 := Ctx.start w0
  unfold Q.heldIntS at hF
  refine W_seq_reg ?_
  refine WL_assign rfl rfl ?_
  refine WL_nil ?_
  refine W_seq ?_
  refine W_seq_reg ?_
  refine WL_assign rfl rfl ?_
  refine WL_nil ?_
  obtain ⟨r1, hr1, hF⟩ := bind_some hF
  refine W_norm (fun l w => ∃ x3 : Int, .inl x3 = r1 ∧ l = [(1, (.int .i64 x3))] ∧ Below w0.heap.size w0 w ∧ Ctx [] w0 w []) ?_ ?_
  · refine W_block ?_
    refine W.sub (l' := [(0, u1), (1, (.int .i64 a2)), (5, (.int .i64 0))]) ?_ ⟨rfl, rfl, rfl, trivial⟩
    refine W_loop (fun k l w => ∃ x1 : Int, ∃ x2 : Int, l = [(0, u1), (1, (.int .i64 x1)), (5, (.int .i64 x2))] ∧ Below w0.heap.size w0 w ∧ Ctx [] w0 w [] ∧ Q.heldIntS_l1 a1 k x1 x2 = some r1) FUEL ⟨a2, 0, rfl, (Below.refl _ _), hC0, hr1⟩ ?_
    clear hr1
    rintro k1 _ w1 ⟨x1, x2, rfl, hB1, hC1, hL1⟩
    cases k1 with
    | zero => rw [Q.heldIntS_l1] at hL1; cases hL1
    | succ k1 =>
      rw [Q.heldIntS_l1] at hL1
      refine W_seq ?_
      refine W_seq_reg ?_
      refine WL_move rfl rfl ?_
      refine WL_move rfl rfl ?_
      refine WL_len Try.underlying27 g1 rfl rfl ?_
      refine WL_lss rfl rfl rfl ?_
      refine WL_nil ?_
      refine W_cond rfl (fun hc1 => ?_) (fun hc1 => ?_)
      · replace hL1 := ite_t hL1 hc1
        refine W_skip ?_
        refine nrm_normal ?_
        refine W_seq ?_
        refine W_block ?_
        refine W_seq ?_
        refine W_seq_reg ?_
        refine WL_move rfl rfl ?_
        refine WL_move rfl rfl ?_
        obtain ⟨x4, hx1, hL1⟩ := bind_some hL1
        refine WL_index Try.underlying27 ty3 g1 hx1 rfl rfl rfl (fun b1 o1 h1 => ?_)
        refine WL_load ty3 h1 hC1.keep rfl rfl (fun v1 h2 => ?_)
        obtain rfl := ro_int h2
        refine WL_move rfl rfl ?_
        refine WL_neq rfl rfl rfl ?_
        refine WL_nil ?_
        refine W_cond rfl (fun hc2 => ?_) (fun hc2 => ?_)
        · replace hL1 := ite_t hL1 hc2
          refine W_seq_reg ?_
          refine WL_assign rfl rfl ?_
          refine WL_nil ?_
          refine W_ret ?_
          refine nrm_ret ?_
          refine blk_ret ?_
          refine nrm_ret ?_
          refine nrm_ret ?_
          refine blk_ret ?_
          refine nrm_ret ?_
          refine nrm_ret ?_
          have hq1 := Option.some.inj hL1
          subst hq1
          dsimp only at hF
          have hq2 := Option.some.inj hF
          subst hq2
          refine fn_ret1 rfl rfl ?_
          exact ⟨_, rfl, int_res hC1 _⟩
        · replace hL1 := ite_f hL1 hc2
          refine W_skip ?_
          refine nrm_normal ?_
          refine W_reg ?_
          refine WL_move rfl rfl ?_
          refine WL_add rfl rfl rfl ?_
          refine WL_assign rfl rfl ?_
          refine WL_nil ?_
          refine blk_normal ?_
          refine nrm_normal ?_
          refine W_reg ?_
          refine WL_move rfl rfl ?_
          refine WL_add rfl rfl rfl ?_
          refine WL_assign rfl rfl ?_
          refine WL_nil ?_
          refine nrm_sub (l' := [(0, u1), (1, (.int .i64 (w64 (x1 + 1)))), (5, (.int .i64 (w64 (x2 + 1))))]) ⟨rfl, rfl, rfl, trivial⟩ ?_
          exact ⟨k1, Nat.lt_succ_self _, w64 (x1 + 1), w64 (x2 + 1), rfl, (Keep.of hB1).below, hC1, hL1⟩
      · replace hL1 := ite_f hL1 hc1
        refine W_exit ?_
        refine nrm_exit ?_
        refine nrm_exit ?_
        refine blk_exit ?_
        have hq3 := Option.some.inj hL1
        subst hq3
        refine nrm_sub (l' := [(1, (.int .i64 x1))]) ⟨rfl, trivial⟩ ?_
        exact ⟨x1, rfl, rfl, (Keep.of hB1).below, hC1⟩
  · rintro l2 _ w2 hs2 ⟨x3, rfl, rfl, hB2, hC2⟩
    try dsimp only at hF
    refine nrm_sub' hs2 ?_
    clear hs2
    refine W_seq_reg ?_
    refine WL_move rfl rfl ?_
    refine WL_assign rfl rfl ?_
    refine WL_nil ?_
    refine W_ret ?_
    have hq4 := Option.some.inj hF
    subst hq4
    refine fn_ret1 rfl rfl ?_
    exact ⟨_, rfl, int_res hC2 _⟩

theorem c_Q_FnExactScheduleCalls {w0 : World} (a1 : Int) (a2 : (Int × Int)) (a3 : Int) (rr : Bool) (hF : Q.FnExactScheduleCalls a1 a2 a3 = some rr) :
    Calls Try.prog 8 [(.int .i64 a1), (.agg #[(.int .i64 a2.1), (.int .i64 a2.2)]), (.int .i64 a3)].toArray w0 fun e w' => ∃ v, e = .returned v ∧ Res w0 rr v w' := by
  refine calls_of_W Try.func8 rfl rfl ?_
  have hC0 := Ctx.start w0
  unfold Q.FnExactScheduleCalls at hF
  refine W_seq_reg ?_
  refine WL_box (cs := [(.int .i64 a2.1), (.int .i64 a2.2)]) hC0 rfl rfl rfl (fun b1 w1 hC1 hB1 => ?_)
  refine WL_assign rfl rfl ?_
  refine WL_nil ?_
  refine W_seq_reg ?_
  refine WL_move rfl rfl ?_
  refine WL_load_box_agg [(.int .i64 a2.1), (.int .i64 a2.2)] hC1 0 rfl rfl rfl Try.isAgg37 Try.sizeOf37 rfl rfl ?_
  obtain ⟨x1, hr1, hF⟩ := bind_some hF
  refine WL_call Try.call28 rfl rfl (c_Q_toWindow (a2.1, a2.2) x1 hr1) ?_
  rintro v1 w2 ⟨hB2, F1, hv1, hn1, hb1⟩
  have hC2 := hC1.push hB2 (A := Item.own v1 x1) hv1 hn1 hb1
  obtain ⟨rfl, hC3⟩ := st41_own hC2
  refine WL_move rfl rfl ?_
  obtain ⟨x2, hr2, hF⟩ := bind_some hF
  refine WL_call Try.call31 rfl rfl (c_S_ScheduleCalls a1 x1 a3 x2 hr2) ?_
  rintro _ w3 ⟨hB3, v2, v3, F2, F3, rfl, hv2, hv3, hn2, hb2⟩
  obtain ⟨rfl, rfl⟩ := val_bool hv3
  have hC4 := hC3.pushL hB3 (Bs := [Item.own v2 x2.1]) (Fs := [F2]) ⟨F2, _, rfl, hv2, rfl⟩ (by simpa using hn2) (fun b h => hb2 b (by simpa using h))
  refine WL_move rfl rfl ?_
  refine WL_extract rfl rfl rfl ?_
  refine WL_extract rfl rfl rfl ?_
  refine WL_assign rfl rfl ?_
  refine WL_assign rfl rfl ?_
  refine WL_nil ?_
  refine W_seq_reg ?_
  refine WL_move rfl rfl ?_
  refine WL_load_box_agg [(.int .i64 a2.1), (.int .i64 a2.2)] hC4 1 rfl rfl rfl Try.isAgg37 Try.sizeOf37 rfl rfl ?_
  obtain ⟨x3, hr3, hF⟩ := bind_some hF
  refine WL_call Try.call28 rfl rfl (c_Q_toWindow (a2.1, a2.2) x3 hr3) ?_
  rintro v4 w4 ⟨hB4, F4, hv4, hn3, hb3⟩
  have hC5 := hC4.push hB4 (A := Item.own v4 x3) hv4 hn3 hb3
  obtain ⟨rfl, hC6⟩ := st41_own hC5
  refine WL_move rfl rfl ?_
  obtain ⟨x4, hr4, hF⟩ := bind_some hF
  refine WL_call Try.call32 rfl rfl (c_M_ScheduleCalls a1 x3 a3 x4 hr4) ?_
  rintro _ w5 ⟨hB5, v5, v6, F5, F6, rfl, hv5, hv6, hn4, hb4⟩
  obtain ⟨rfl, rfl⟩ := val_bool hv6
  have hC7 := hC6.pushL hB5 (Bs := [Item.own v5 x4.1]) (Fs := [F5]) ⟨F5, _, rfl, hv5, rfl⟩ (by simpa using hn4) (fun b h => hb4 b (by simpa using h))
  refine WL_move rfl rfl ?_
  refine WL_extract rfl rfl rfl ?_
  refine WL_extract rfl rfl rfl ?_
  refine WL_assign rfl rfl ?_
  refine WL_assign rfl rfl ?_
  refine WL_nil ?_
  refine W_seq ?_
  obtain ⟨r1, hr5, hF⟩ := bind_some hF
  refine W_cut (fun l w => ∃ x5 : Bool, x5 = r1 ∧ l = [(0, (.int .i64 a1)), (2, (.int .i64 a3)), (4, (ptr b1 0)), (7, v2), (8, (.bool x2.2)), (9, v5), (39, (.bool x5))] ∧ Below w5.heap.size w5 w ∧ Ctx [] w0 w [Item.own v5 (x4.1 : (List Int)), Item.own v2 (x2.1 : (List Int)), Item.box b1 [(.int .i64 a2.1), (.int .i64 a2.2)]]) ?_ ?_
  · refine W_reg ?_
    refine WL_move rfl rfl ?_
    refine WL_move rfl rfl ?_
    obtain ⟨x6, hr6, hr5⟩ := bind_some hr5
    refine WL_call Try.call30 rfl rfl (c_Q_eqIntS x4.1 v5 ((hC7.ro 0 rfl).now (Keep.refl _ _)) x2.1 v2 ((hC7.ro 1 rfl).now (Keep.refl _ _)) x6 hr6) ?_
    intro _ w7 hv7
    obtain ⟨rfl, hB7⟩ := res_bool hv7
    have hC9 := hC7.grow hB7
    refine WL_not rfl rfl ?_
    refine WL_move rfl rfl ?_
    refine WL_fork (fun hc1 => ?_) (fun hc1 => ?_)
    · replace hr5 := ite_t hr5 hc1
      refine WL_guard_skip rfl rfl (by simp) rfl ?_
      refine WL_guard_skip rfl rfl (by simp) rfl ?_
      refine WL_guard_skip rfl rfl (by simp) rfl ?_
      refine WL_pick_t rfl rfl rfl ?_
      refine WL_nil ?_
      have hq1 := Option.some.inj hr5
      subst hq1
      refine nrm_sub (l' := [(0, (.int .i64 a1)), (2, (.int .i64 a3)), (4, (ptr b1 0)), (7, v2), (8, (.bool x2.2)), (9, v5), (39, (.bool true))]) ⟨rfl, rfl, rfl, rfl, rfl, rfl, rfl, trivial⟩ ?_
      exact ⟨true, rfl, rfl, (Keep.of hB7).below, hC9⟩
    · replace hr5 := ite_f hr5 hc1
      refine WL_guard rfl rfl ?_
      refine WL_move rfl rfl ?_
      refine WL_guard rfl rfl ?_
      refine WL_move rfl rfl ?_
      refine WL_guard rfl rfl ?_
      refine WL_bool_neq Try.underlying4 rfl rfl rfl ?_
      refine WL_pick_f rfl rfl rfl ?_
      refine WL_nil ?_
      have hq2 := Option.some.inj hr5
      subst hq2
      refine nrm_sub (l' := [(0, (.int .i64 a1)), (2, (.int .i64 a3)), (4, (ptr b1 0)), (7, v2), (8, (.bool x2.2)), (9, v5), (39, (.bool (!decide (x4.2 = x2.2))))]) ⟨rfl, rfl, rfl, rfl, rfl, rfl, rfl, trivial⟩ ?_
      exact ⟨(!decide (x4.2 = x2.2)), rfl, rfl, (Keep.of hB7).below, hC9⟩
  · rintro _ w6 ⟨x5, rfl, rfl, hB6, hC8⟩
    try dsimp only at hF
    refine W_cond rfl (fun hc2 => ?_) (fun hc2 => ?_)
    · replace hF := ite_t hF hc2
      refine W_seq_reg ?_
      refine WL_assign rfl rfl ?_
      refine WL_nil ?_
      refine W_ret ?_
      refine nrm_ret ?_
      have hq3 := Option.some.inj hF
      subst hq3
      refine fn_ret1 rfl rfl ?_
      exact ⟨_, rfl, bool_res hC8 _⟩
    · replace hF := ite_f hF hc2
      refine W_skip ?_
      refine nrm_normal ?_
      refine W_seq_reg ?_
      refine WL_assign rfl rfl ?_
      refine WL_nil ?_
      refine W_seq_reg ?_
      refine WL_move rfl rfl ?_
      refine WL_move rfl rfl ?_
      obtain ⟨x7, hr7, hF⟩ := bind_some hF
      obtain ⟨Fs1, hH1, hn5, hF1, hO1, hb5⟩ := Ctx.lend2 (As := [Item.own v2 (x2.1 : (List Int)), Item.box b1 [(.int .i64 a2.1), (.int .i64 a2.2)]]) [Item.own v5 (x4.1 : (List Int))] hC8
      refine WL_call Try.call33 rfl rfl (c_Q_markIntS x4.1 v5 1 hH1 hn5 x7 hr7) ?_
      rintro _ w8 ⟨rfl, hq4⟩
      have hC10 : Ctx [] w0 w8 [Item.own v5 (x7.2 : (List Int)), Item.own v2 (x2.1 : (List Int)), Item.box b1 [(.int .i64 a2.1), (.int .i64 a2.2)]] := hb5 _ _ hq4
      refine WL_assign rfl rfl ?_
      refine WL_nil ?_
      refine W_seq_reg ?_
      refine WL_assign rfl rfl ?_
      refine WL_nil ?_
      refine W_seq_reg ?_
      refine WL_move rfl rfl ?_
      refine WL_move rfl rfl ?_
      obtain ⟨x8, hr8, hF⟩ := bind_some hF
      refine WL_call Try.call34 rfl rfl (c_Q_heldIntS x7.2 v5 ((hC10.ro 0 rfl).now (Keep.refl _ _)) 1 x8 hr8) ?_
      intro _ w9 hv8
      obtain ⟨rfl, hB8⟩ := res_int hv8
      have hC11 := hC10.grow hB8
      refine WL_assign rfl rfl ?_
      refine WL_nil ?_
      refine W_seq ?_
      refine W_seq_reg ?_
      refine WL_move rfl rfl ?_
      refine WL_lss rfl rfl rfl ?_
      refine WL_nil ?_
      refine W_cond rfl (fun hc3 => ?_) (fun hc3 => ?_)
      · replace hF := ite_t hF hc3
        refine W_seq_reg ?_
        refine WL_assign rfl rfl ?_
        refine WL_nil ?_
        refine W_ret ?_
        refine nrm_ret ?_
        have hq5 := Option.some.inj hF
        subst hq5
        refine fn_ret1 rfl rfl ?_
        exact ⟨_, rfl, bool_res hC11 _⟩
      · replace hF := ite_f hF hc3
        refine W_skip ?_
        refine nrm_normal ?_
        refine W_seq ?_
        refine W_seq_reg ?_
        refine WL_move rfl rfl ?_
        refine WL_move rfl rfl ?_
        refine WL_neq rfl rfl rfl ?_
        refine WL_nil ?_
        refine W_cond rfl (fun hc4 => ?_) (fun hc4 => ?_)
        · replace hF := ite_t hF hc4
          refine W_seq_reg ?_
          refine WL_assign rfl rfl ?_
          refine WL_nil ?_
          refine W_ret ?_
          refine nrm_ret ?_
          have hq6 := Option.some.inj hF
          subst hq6
          refine fn_ret1 rfl rfl ?_
          exact ⟨_, rfl, bool_res hC11 _⟩
        · replace hF := ite_f hF hc4
          refine W_skip ?_
          refine nrm_normal ?_
          refine W_seq_reg ?_
          refine WL_move rfl rfl ?_
          refine WL_load_box_agg [(.int .i64 a2.1), (.int .i64 a2.2)] hC11 2 rfl rfl rfl Try.isAgg37 Try.sizeOf37 rfl rfl ?_
          obtain ⟨x9, hr9, hF⟩ := bind_some hF
          refine WL_call Try.call28 rfl rfl (c_Q_toWindow (a2.1, a2.2) x9 hr9) ?_
          rintro v7 w10 ⟨hB9, F7, hv9, hn6, hb6⟩
          have hC12 := hC11.push hB9 (A := Item.own v7 x9) hv9 hn6 hb6
          obtain ⟨rfl, hC13⟩ := st41_own hC12
          refine WL_move rfl rfl ?_
          obtain ⟨x10, hr10, hF⟩ := bind_some hF
          refine WL_call Try.call32 rfl rfl (c_M_ScheduleCalls a1 x9 a3 x10 hr10) ?_
          rintro _ w11 ⟨hB10, v8, v9, F8, F9, rfl, hv10, hv11, hn7, hb7⟩
          obtain ⟨rfl, rfl⟩ := val_bool hv11
          have hC14 := hC13.pushL hB10 (Bs := [Item.own v8 x10.1]) (Fs := [F8]) ⟨F8, _, rfl, hv10, rfl⟩ (by simpa using hn7) (fun b h => hb7 b (by simpa using h))
          refine WL_move rfl rfl ?_
          refine WL_extract rfl rfl rfl ?_
          refine WL_extract rfl rfl rfl ?_
          refine WL_assign rfl rfl ?_
          refine WL_assign rfl rfl ?_
          refine WL_nil ?_
          refine W_seq ?_
          obtain ⟨r2, hr11, hF⟩ := bind_some hF
          refine W_cut (fun l w => ∃ x11 : Bool, x11 = r2 ∧ l = [(9, v5), (11, (.int .i64 x7.1)), (67, (.bool x11))] ∧ Below w11.heap.size w11 w ∧ Ctx [] w0 w [Item.own v5 (x7.2 : (List Int))]) ?_ ?_
          · refine W_reg ?_
            refine WL_move rfl rfl ?_
            refine WL_move rfl rfl ?_
            obtain ⟨x12, hr12, hr11⟩ := bind_some hr11
            refine WL_call Try.call30 rfl rfl (c_Q_eqIntS x10.1 v8 ((hC14.ro 0 rfl).now (Keep.refl _ _)) x2.1 v2 ((hC14.ro 2 rfl).now (Keep.refl _ _)) x12 hr12) ?_
            intro _ w13 hv12
            obtain ⟨rfl, hB12⟩ := res_bool hv12
            have hC16 := hC14.grow hB12
            refine WL_not rfl rfl ?_
            refine WL_move rfl rfl ?_
            refine WL_fork (fun hc5 => ?_) (fun hc5 => ?_)
            · replace hr11 := ite_t hr11 hc5
              refine WL_guard_skip rfl rfl (by simp) rfl ?_
              refine WL_guard_skip rfl rfl (by simp) rfl ?_
              refine WL_guard_skip rfl rfl (by simp) rfl ?_
              refine WL_pick_t rfl rfl rfl ?_
              refine WL_nil ?_
              have hq7 := Option.some.inj hr11
              subst hq7
              have hC17 : Ctx [] w0 _ [Item.own v5 (x7.2 : (List Int)), Item.own v8 (x10.1 : (List Int)), Item.own v2 (x2.1 : (List Int)), Item.box b1 [(.int .i64 a2.1), (.int .i64 a2.2)]] := hC16.front 1 rfl
              have hC18 : Ctx [] w0 _ [Item.own v5 (x7.2 : (List Int))] := hC17.headN 1
              refine nrm_sub (l' := [(9, v5), (11, (.int .i64 x7.1)), (67, (.bool true))]) ⟨rfl, rfl, rfl, trivial⟩ ?_
              exact ⟨true, rfl, rfl, (Keep.of hB12).below, hC18⟩
            · replace hr11 := ite_f hr11 hc5
              refine WL_guard rfl rfl ?_
              refine WL_move rfl rfl ?_
              refine WL_guard rfl rfl ?_
              refine WL_move rfl rfl ?_
              refine WL_guard rfl rfl ?_
              refine WL_bool_neq Try.underlying4 rfl rfl rfl ?_
              refine WL_pick_f rfl rfl rfl ?_
              refine WL_nil ?_
              have hq8 := Option.some.inj hr11
              subst hq8
              have hC19 : Ctx [] w0 _ [Item.own v5 (x7.2 : (List Int)), Item.own v8 (x10.1 : (List Int)), Item.own v2 (x2.1 : (List Int)), Item.box b1 [(.int .i64 a2.1), (.int .i64 a2.2)]] := hC16.front 1 rfl
              have hC20 : Ctx [] w0 _ [Item.own v5 (x7.2 : (List Int))] := hC19.headN 1
              refine nrm_sub (l' := [(9, v5), (11, (.int .i64 x7.1)), (67, (.bool (!decide (x10.2 = x2.2))))]) ⟨rfl, rfl, rfl, trivial⟩ ?_
              exact ⟨(!decide (x10.2 = x2.2)), rfl, rfl, (Keep.of hB12).below, hC20⟩
          · rintro _ w12 ⟨x11, rfl, rfl, hB11, hC15⟩
            try dsimp only at hF
            refine W_cond rfl (fun hc6 => ?_) (fun hc6 => ?_)
            · replace hF := ite_t hF hc6
              refine W_seq_reg ?_
              refine WL_assign rfl rfl ?_
              refine WL_nil ?_
              refine W_ret ?_
              refine nrm_ret ?_
              have hq9 := Option.some.inj hF
              subst hq9
              refine fn_ret1 rfl rfl ?_
              exact ⟨_, rfl, bool_res hC15 _⟩
            · replace hF := ite_f hF hc6
              refine W_skip ?_
              refine nrm_normal ?_
              refine W_seq_reg ?_
              refine WL_assign rfl rfl ?_
              refine WL_nil ?_
              refine W_seq_reg ?_
              refine WL_move rfl rfl ?_
              refine WL_move rfl rfl ?_
              obtain ⟨x13, hr13, hF⟩ := bind_some hF
              refine WL_call Try.call34 rfl rfl (c_Q_heldIntS x7.2 v5 ((hC15.ro 0 rfl).now (Keep.refl _ _)) 1 x13 hr13) ?_
              intro _ w14 hv13
              obtain ⟨rfl, hB13⟩ := res_int hv13
              have hC21 := hC15.grow hB13
              refine WL_assign rfl rfl ?_
              refine WL_nil ?_
              refine W_seq ?_
              refine W_seq_reg ?_
              refine WL_move rfl rfl ?_
              refine WL_lss rfl rfl rfl ?_
              refine WL_nil ?_
              refine W_cond rfl (fun hc7 => ?_) (fun hc7 => ?_)
              · replace hF := ite_t hF hc7
                refine W_seq_reg ?_
                refine WL_assign rfl rfl ?_
                refine WL_nil ?_
                refine W_ret ?_
                refine nrm_ret ?_
                have hq10 := Option.some.inj hF
                subst hq10
                refine fn_ret1 rfl rfl ?_
                exact ⟨_, rfl, bool_res hC21 _⟩
              · replace hF := ite_f hF hc7
                refine W_skip ?_
                refine nrm_normal ?_
                refine W_seq ?_
                refine W_seq_reg ?_
                refine WL_move rfl rfl ?_
                refine WL_move rfl rfl ?_
                refine WL_neq rfl rfl rfl ?_
                refine WL_nil ?_
                refine W_cond rfl (fun hc8 => ?_) (fun hc8 => ?_)
                · replace hF := ite_t hF hc8
                  refine W_seq_reg ?_
                  refine WL_assign rfl rfl ?_
                  refine WL_nil ?_
                  refine W_ret ?_
                  refine nrm_ret ?_
                  have hq11 := Option.some.inj hF
                  subst hq11
                  refine fn_ret1 rfl rfl ?_
                  exact ⟨_, rfl, bool_res hC21 _⟩
                · replace hF := ite_f hF hc8
                  refine W_skip ?_
                  refine nrm_normal ?_
                  refine W_seq_reg ?_
                  refine WL_assign rfl rfl ?_
                  refine WL_nil ?_
                  refine W_ret ?_
                  have hq12 := Option.some.inj hF
                  subst hq12
                  refine fn_ret1 rfl rfl ?_
                  exact ⟨_, rfl, bool_res hC21 _⟩

theorem c_Q_toIntS {w0 : World} (a1 : (List Int)) (u1 : Value) (g1 : RO [] w0 u1 a1) (rr : (List Int)) (hF : Q.toIntS a1 = some rr) :
    Calls Try.prog 27 [u1].toArray w0 fun e w' => ∃ v, e = .returned v ∧ Res w0 rr v w' := by
  refine calls_of_W Try.func27 rfl rfl ?_
  have hC0 := Ctx.start w0
  unfold Q.toIntS at hF
  refine W_seq_reg ?_
  refine WL_assign rfl rfl ?_
  refine WL_nil ?_
  refine W_seq_reg ?_
  refine WL_move rfl rfl ?_
  refine WL_len Try.underlying27 g1 rfl rfl ?_
  obtain ⟨x1, hx1, hF⟩ := bind_some hF
  refine WL_makeSlice hC0 Try.underlying27 ty3 rfl zc3 zr3 hx1 rfl rfl rfl (fun b1 w1 hC1 hB1 => ?_)
  refine WL_assign rfl rfl ?_
  refine WL_nil ?_
  refine W_seq ?_
  refine W_seq_reg ?_
  refine WL_assign rfl rfl ?_
  refine WL_nil ?_
  obtain ⟨r1, hr1, hF⟩ := bind_some hF
  refine W_norm (fun l w => ∃ x4 : (List Int), x4 = r1 ∧ l = [(3, (.slice (some ⟨b1, 0, none⟩) (Int.toNat (List.length a1 : Int)) (Int.toNat (List.length a1 : Int))))] ∧ Ctx [] w0 w [Item.own (.slice (some ⟨b1, 0, none⟩) (Int.toNat (List.length a1 : Int)) (Int.toNat (List.length a1 : Int))) (x4 : (List Int))]) ?_ ?_
  · refine W_block ?_
    refine W.sub (l' := [(0, u1), (3, (.slice (some ⟨b1, 0, none⟩) (Int.toNat (List.length a1 : Int)) (Int.toNat (List.length a1 : Int)))), (4, (.int .i64 0))]) ?_ ⟨rfl, rfl, rfl, trivial⟩
    refine W_loop (fun k l w => ∃ x2 : (List Int), ∃ x3 : Int, l = [(0, u1), (3, (.slice (some ⟨b1, 0, none⟩) (Int.toNat (List.length a1 : Int)) (Int.toNat (List.length a1 : Int)))), (4, (.int .i64 x3))] ∧ Ctx [] w0 w [Item.own (.slice (some ⟨b1, 0, none⟩) (Int.toNat (List.length a1 : Int)) (Int.toNat (List.length a1 : Int))) (x2 : (List Int))] ∧ Q.toIntS_l1 a1 k x2 x3 = some r1) FUEL ⟨x1, 0, rfl, hC1, hr1⟩ ?_
    clear hr1
    rintro k1 _ w2 ⟨x2, x3, rfl, hC2, hL1⟩
    cases k1 with
    | zero => rw [Q.toIntS_l1] at hL1; cases hL1
    | succ k1 =>
      rw [Q.toIntS_l1] at hL1
      refine W_seq ?_
      refine W_seq_reg ?_
      refine WL_move rfl rfl ?_
      refine WL_move rfl rfl ?_
      refine WL_len Try.underlying27 g1 rfl rfl ?_
      refine WL_lss rfl rfl rfl ?_
      refine WL_nil ?_
      refine W_cond rfl (fun hc1 => ?_) (fun hc1 => ?_)
      · replace hL1 := ite_t hL1 hc1
        refine W_skip ?_
        refine nrm_normal ?_
        refine W_seq ?_
        refine W_block ?_
        refine W_reg ?_
        refine WL_move rfl rfl ?_
        refine WL_move rfl rfl ?_
        refine WL_move rfl rfl ?_
        refine WL_move rfl rfl ?_
        obtain ⟨x5, hx2, hL1⟩ := bind_some hL1
        refine WL_index Try.underlying27 ty3 g1 hx2 rfl rfl rfl (fun b2 o1 h1 => ?_)
        refine WL_load ty3 h1 hC2.keep rfl rfl (fun v1 h2 => ?_)
        obtain rfl := ro_int h2
        obtain ⟨x6, hx3, hL1⟩ := bind_some hL1
        refine WL_index_own hC2 0 rfl Try.underlying27 ty3 hx3 rfl rfl rfl (fun b3 hE1 => ?_)
        have hC4 := hC2.triv (int_val (x5))
        refine WL_store_elem hC4 0 rfl ty3 hE1 hx3 rfl rfl rfl (fun w3 hC3 => ?_)
        try dsimp only [List.set] at hC3
        refine WL_nil ?_
        refine blk_normal ?_
        refine nrm_normal ?_
        refine W_reg ?_
        refine WL_move rfl rfl ?_
        refine WL_add rfl rfl rfl ?_
        refine WL_assign rfl rfl ?_
        refine WL_nil ?_
        refine nrm_sub (l' := [(0, u1), (3, (.slice (some ⟨b1, 0, none⟩) (Int.toNat (List.length a1 : Int)) (Int.toNat (List.length a1 : Int)))), (4, (.int .i64 (w64 (x3 + 1))))]) ⟨rfl, rfl, rfl, trivial⟩ ?_
        exact ⟨k1, Nat.lt_succ_self _, (List.set x2 (Int.toNat x3) x5), w64 (x3 + 1), rfl, hC3, hL1⟩
      · replace hL1 := ite_f hL1 hc1
        refine W_exit ?_
        refine nrm_exit ?_
        refine nrm_exit ?_
        refine blk_exit ?_
        have hq1 := Option.some.inj hL1
        subst hq1
        refine nrm_sub (l' := [(3, (.slice (some ⟨b1, 0, none⟩) (Int.toNat (List.length a1 : Int)) (Int.toNat (List.length a1 : Int))))]) ⟨rfl, trivial⟩ ?_
        exact ⟨x2, rfl, rfl, hC2⟩
  · rintro l2 _ w4 hs2 ⟨x4, rfl, rfl, hC5⟩
    try dsimp only at hF
    refine nrm_sub' hs2 ?_
    clear hs2
    refine W_seq_reg ?_
    refine WL_move rfl rfl ?_
    refine WL_assign rfl rfl ?_
    refine WL_nil ?_
    refine W_ret ?_
    have hq2 := Option.some.inj hF
    subst hq2
    refine fn_ret1 rfl rfl ?_
    exact ⟨_, rfl, own_res hC5 0 rfl⟩

theorem c_M_bit {w0 : World} (a1 : Bool) (rr : Int) (hF : M.bit a1 = some rr) :
    Calls Try.prog 104 [(.bool a1)].toArray w0 fun e w' => ∃ v, e = .returned v ∧ Res w0 rr v w' := by
  refine calls_of_W Try.func104 rfl rfl ?_
  have hC0 := Ctx.start w0
  unfold M.bit at hF
  refine W_seq_reg ?_
  refine WL_assign rfl rfl ?_
  refine WL_nil ?_
  refine W_seq ?_
  refine W_seq_reg ?_
  refine WL_move rfl rfl ?_
  refine WL_nil ?_
  refine W_cond rfl (fun hc1 => ?_) (fun hc1 => ?_)
  · replace hF := ite_t hF hc1
    refine W_seq_reg ?_
    refine WL_assign rfl rfl ?_
    refine WL_nil ?_
    refine W_ret ?_
    refine nrm_ret ?_
    have hq1 := Option.some.inj hF
    subst hq1
    refine fn_ret1 rfl rfl ?_
    exact ⟨_, rfl, int_res hC0 _⟩
  · replace hF := ite_f hF hc1
    refine W_skip ?_
    refine nrm_normal ?_
    refine W_seq_reg ?_
    refine WL_assign rfl rfl ?_
    refine WL_nil ?_
    refine W_ret ?_
    have hq2 := Option.some.inj hF
    subst hq2
    refine fn_ret1 rfl rfl ?_
    exact ⟨_, rfl, int_res hC0 _⟩

theorem c_M_CallsIn {w0 : World} (a1 : (List Int)) (u1 : Value) (g1 : RO [] w0 u1 a1) (a2 : Int) (a3 : Int) (rr : Int) (hF : M.CallsIn a1 a2 a3 = some rr) :
    Calls Try.prog 62 [u1, (.int .i64 a2), (.int .i64 a3)].toArray w0 fun e w' => ∃ v, e = .returned v ∧ Res w0 rr v w' := by
  refine calls_of_W Try.func62 rfl rfl ?_
  have hC0 := Ctx.start w0
  unfold M.CallsIn at hF
  refine W_seq_reg ?_
  refine WL_assign rfl rfl ?_
  refine WL_nil ?_
  refine W_seq_reg ?_
  refine WL_assign rfl rfl ?_
  refine WL_nil ?_
  refine W_seq ?_
  refine W_seq_reg ?_
  refine WL_move rfl rfl ?_
  refine WL_len Try.underlying27 g1 rfl rfl ?_
  refine WL_move rfl rfl ?_
  refine WL_nil ?_
  obtain ⟨r1, hr1, hF⟩ := bind_some hF
  refine W_norm (fun l w => ∃ x3 : Int, x3 = r1 ∧ l = [(7, (.int .i64 x3))] ∧ Below w0.heap.size w0 w ∧ Ctx [] w0 w []) ?_ ?_
  · refine W_block ?_
    refine W.sub (l' := [(1, (.int .i64 a2)), (2, (.int .i64 a3)), (7, (.int .i64 0)), (10, u1), (11, (.int .i64 (List.length a1 : Int))), (12, (.int .i64 0))]) ?_ ⟨rfl, rfl, rfl, rfl, rfl, rfl, trivial⟩
    refine W_loop (fun k l w => ∃ x1 : Int, ∃ x2 : Int, l = [(1, (.int .i64 a2)), (2, (.int .i64 a3)), (7, (.int .i64 x1)), (10, u1), (11, (.int .i64 (List.length a1 : Int))), (12, (.int .i64 x2))] ∧ Below w0.heap.size w0 w ∧ Ctx [] w0 w [] ∧ M.CallsIn_l1 a1 a2 a3 k x1 x2 = some r1) FUEL ⟨0, 0, rfl, (Below.refl _ _), hC0, hr1⟩ ?_
    clear hr1
    rintro k1 _ w1 ⟨x1, x2, rfl, hB1, hC1, hL1⟩
    cases k1 with
    | zero => rw [M.CallsIn_l1] at hL1; cases hL1
    | succ k1 =>
      rw [M.CallsIn_l1] at hL1
      refine W_seq_reg ?_
      refine WL_lss rfl rfl rfl ?_
      refine WL_nil ?_
      refine W_seq ?_
      refine W_cond rfl (fun hc1 => ?_) (fun hc1 => ?_)
      · replace hL1 := ite_t hL1 hc1
        refine W_skip ?_
        refine nrm_normal ?_
        refine W_seq ?_
        refine W_block ?_
        refine W_seq_reg ?_
        obtain ⟨x4, hx1, hL1⟩ := bind_some hL1
        refine WL_index Try.underlying27 ty3 g1 hx1 rfl rfl rfl (fun b1 o1 h1 => ?_)
        refine WL_load ty3 h1 hC1.keep rfl rfl (fun v1 h2 => ?_)
        obtain rfl := ro_int h2
        refine WL_assign rfl rfl ?_
        refine WL_nil ?_
        obtain ⟨r2, hr2, hL1⟩ := bind_some hL1
        refine W_norm (fun l w => ∃ x5 : Int, x5 = r2 ∧ l = [(1, (.int .i64 a2)), (2, (.int .i64 a3)), (7, (.int .i64 x5)), (10, u1), (11, (.int .i64 (List.length a1 : Int))), (12, (.int .i64 x2))] ∧ Below w1.heap.size w1 w ∧ Ctx [] w0 w []) ?_ ?_
        · refine W_reg ?_
          refine WL_move rfl rfl ?_
          refine WL_move rfl rfl ?_
          refine WL_geq rfl rfl rfl ?_
          refine WL_move rfl rfl ?_
          refine WL_fork (fun hc2 => ?_) (fun hc2 => ?_)
          · replace hr2 := ite_t hr2 hc2
            refine WL_guard rfl rfl ?_
            refine WL_move rfl rfl ?_
            refine WL_guard rfl rfl ?_
            refine WL_move rfl rfl ?_
            refine WL_guard rfl rfl ?_
            refine WL_geq rfl rfl rfl ?_
            refine WL_pick_t rfl rfl rfl ?_
            refine WL_move rfl rfl ?_
            refine WL_fork (fun hc3 => ?_) (fun hc3 => ?_)
            · replace hr2 := ite_t hr2 hc3
              refine WL_guard rfl rfl ?_
              refine WL_move rfl rfl ?_
              refine WL_guard rfl rfl ?_
              refine WL_move rfl rfl ?_
              refine WL_guard rfl rfl ?_
              refine WL_sub rfl rfl rfl ?_
              refine WL_guard rfl rfl ?_
              refine WL_move rfl rfl ?_
              refine WL_guard rfl rfl ?_
              refine WL_lss rfl rfl rfl ?_
              refine WL_pick_t rfl rfl rfl ?_
              obtain ⟨x6, hr3, hr2⟩ := bind_some hr2
              refine WL_call Try.call104 rfl rfl (c_M_bit (decide ((w64 (x4 - a2)) < a3)) x6 hr3) ?_
              intro _ w3 hv1
              obtain ⟨rfl, hB3⟩ := res_int hv1
              have hC3 := hC1.grow hB3
              refine WL_add rfl rfl rfl ?_
              refine WL_assign rfl rfl ?_
              refine WL_nil ?_
              have hq1 := Option.some.inj hr2
              subst hq1
              refine nrm_sub (l' := [(1, (.int .i64 a2)), (2, (.int .i64 a3)), (7, (.int .i64 (w64 (x1 + x6)))), (10, u1), (11, (.int .i64 (List.length a1 : Int))), (12, (.int .i64 x2))]) ⟨rfl, rfl, rfl, rfl, rfl, rfl, trivial⟩ ?_
              exact ⟨w64 (x1 + x6), rfl, rfl, (Keep.of hB3).below, hC3⟩
            · replace hr2 := ite_f hr2 hc3
              refine WL_guard_skip rfl rfl (by simp) rfl ?_
              refine WL_guard_skip rfl rfl (by simp) rfl ?_
              refine WL_guard_skip rfl rfl (by simp) rfl ?_
              refine WL_guard_skip rfl rfl (by simp) rfl ?_
              refine WL_guard_skip rfl rfl (by simp) rfl ?_
              refine WL_pick_f rfl rfl rfl ?_
              obtain ⟨x7, hr4, hr2⟩ := bind_some hr2
              refine WL_call Try.call104 rfl rfl (c_M_bit false x7 hr4) ?_
              intro _ w4 hv2
              obtain ⟨rfl, hB4⟩ := res_int hv2
              have hC4 := hC1.grow hB4
              refine WL_add rfl rfl rfl ?_
              refine WL_assign rfl rfl ?_
              refine WL_nil ?_
              have hq2 := Option.some.inj hr2
              subst hq2
              refine nrm_sub (l' := [(1, (.int .i64 a2)), (2, (.int .i64 a3)), (7, (.int .i64 (w64 (x1 + x7)))), (10, u1), (11, (.int .i64 (List.length a1 : Int))), (12, (.int .i64 x2))]) ⟨rfl, rfl, rfl, rfl, rfl, rfl, trivial⟩ ?_
              exact ⟨w64 (x1 + x7), rfl, rfl, (Keep.of hB4).below, hC4⟩
          · replace hr2 := ite_f hr2 hc2
            refine WL_guard_skip rfl rfl (by simp) rfl ?_
            refine WL_guard_skip rfl rfl (by simp) rfl ?_
            refine WL_guard_skip rfl rfl (by simp) rfl ?_
            refine WL_pick_f rfl rfl rfl ?_
            refine WL_move rfl rfl ?_
            refine WL_guard_skip rfl rfl (by simp) rfl ?_
            refine WL_guard_skip rfl rfl (by simp) rfl ?_
            refine WL_guard_skip rfl rfl (by simp) rfl ?_
            refine WL_guard_skip rfl rfl (by simp) rfl ?_
            refine WL_guard_skip rfl rfl (by simp) rfl ?_
            refine WL_pick_f rfl rfl rfl ?_
            obtain ⟨x8, hr5, hr2⟩ := bind_some hr2
            refine WL_call Try.call104 rfl rfl (c_M_bit false x8 hr5) ?_
            intro _ w5 hv3
            obtain ⟨rfl, hB5⟩ := res_int hv3
            have hC5 := hC1.grow hB5
            refine WL_add rfl rfl rfl ?_
            refine WL_assign rfl rfl ?_
            refine WL_nil ?_
            have hq3 := Option.some.inj hr2
            subst hq3
            refine nrm_sub (l' := [(1, (.int .i64 a2)), (2, (.int .i64 a3)), (7, (.int .i64 (w64 (x1 + x8)))), (10, u1), (11, (.int .i64 (List.length a1 : Int))), (12, (.int .i64 x2))]) ⟨rfl, rfl, rfl, rfl, rfl, rfl, trivial⟩ ?_
            exact ⟨w64 (x1 + x8), rfl, rfl, (Keep.of hB5).below, hC5⟩
        · rintro l2 _ w2 hs2 ⟨x5, rfl, rfl, hB2, hC2⟩
          try dsimp only at hL1
          refine blk_normal ?_
          refine nrm_sub' hs2 ?_
          clear hs2
          refine W_reg ?_
          refine WL_add rfl rfl rfl ?_
          refine WL_move rfl rfl ?_
          refine WL_nil ?_
          refine nrm_sub (l' := [(1, (.int .i64 a2)), (2, (.int .i64 a3)), (7, (.int .i64 x5)), (10, u1), (11, (.int .i64 (List.length a1 : Int))), (12, (.int .i64 (w64 (x2 + 1))))]) ⟨rfl, rfl, rfl, rfl, rfl, rfl, trivial⟩ ?_
          exact ⟨k1, Nat.lt_succ_self _, x5, w64 (x2 + 1), rfl, ((Keep.of hB1).then hB2).below, hC2, hL1⟩
      · replace hL1 := ite_f hL1 hc1
        refine W_exit ?_
        refine nrm_exit ?_
        refine nrm_exit ?_
        refine blk_exit ?_
        have hq4 := Option.some.inj hL1
        subst hq4
        refine nrm_sub (l' := [(7, (.int .i64 x1))]) ⟨rfl, trivial⟩ ?_
        exact ⟨x1, rfl, rfl, (Keep.of hB1).below, hC1⟩
  · rintro l3 _ w6 hs3 ⟨x3, rfl, rfl, hB6, hC6⟩
    try dsimp only at hF
    refine nrm_sub' hs3 ?_
    clear hs3
    refine W_seq_reg ?_
    refine WL_move rfl rfl ?_
    refine WL_assign rfl rfl ?_
    refine WL_nil ?_
    refine W_ret ?_
    have hq5 := Option.some.inj hF
    subst hq5
    refine fn_ret1 rfl rfl ?_
    exact ⟨_, rfl, int_res hC6 _⟩

theorem c_M_IsKept {w0 : World} (a1 : (List Int)) (u1 : Value) (g1 : RO [] w0 u1 a1) (a2 : (Int × Int)) (rr : Bool) (hF : M.IsKept a1 a2 = some rr) :
    Calls Try.prog 56 [u1, (.agg #[(.int .i64 a2.1), (.int .i64 a2.2)])].toArray w0 fun e w' => ∃ v, e = .returned v ∧ Res w0 rr v w' := by
  refine calls_of_W Try.func56 rfl rfl ?_
  have hC0 := Ctx.start w0
  unfold M.IsKept at hF
  refine W_seq_reg ?_
  refine WL_box (cs := [(.int .i64 a2.1), (.int .i64 a2.2)]) hC0 rfl rfl rfl (fun b1 w1 hC1 hB1 => ?_)
  refine WL_assign rfl rfl ?_
  refine WL_nil ?_
  refine W_seq ?_
  obtain ⟨r1, hr1, hF⟩ := bind_some hF
  refine W_cut (fun l w => ∃ x1 : Bool, x1 = r1 ∧ l = [(0, u1), (3, (ptr b1 0)), (14, (.bool x1))] ∧ Below w1.heap.size w1 w ∧ Ctx [] w0 w [Item.box b1 [(.int .i64 a2.1), (.int .i64 a2.2)]]) ?_ ?_
  · refine W_reg ?_
    refine WL_move rfl rfl ?_
    refine WL_len Try.underlying27 g1 rfl rfl ?_
    refine WL_gtr rfl rfl rfl ?_
    refine WL_move rfl rfl ?_
    refine WL_fork (fun hc1 => ?_) (fun hc1 => ?_)
    · replace hr1 := ite_t hr1 hc1
      refine WL_guard_skip rfl rfl (by simp) rfl ?_
      refine WL_guard_skip rfl rfl (by simp) rfl ?_
      refine WL_guard_skip rfl rfl (by simp) rfl ?_
      refine WL_pick_t rfl rfl rfl ?_
      refine WL_nil ?_
      have hq1 := Option.some.inj hr1
      subst hq1
      refine nrm_sub (l' := [(0, u1), (3, (ptr b1 0)), (14, (.bool true))]) ⟨rfl, rfl, rfl, trivial⟩ ?_
      exact ⟨true, rfl, rfl, (Below.refl _ _), hC1⟩
    · replace hr1 := ite_f hr1 hc1
      refine WL_guard rfl rfl ?_
      refine WL_load_box_agg [(.int .i64 a2.1), (.int .i64 a2.2)] hC1 0 rfl rfl rfl Try.isAgg41 Try.sizeOf41 rfl rfl ?_
      obtain ⟨x2, hr2, hr1⟩ := bind_some hr1
      refine WL_guard rfl rfl ?_
      refine WL_call Try.call63 rfl rfl (c_M_IsWindow (a2.1, a2.2) x2 hr2) ?_
      intro _ w3 hv1
      obtain ⟨rfl, hB3⟩ := res_bool hv1
      have hC3 := hC1.grow hB3
      refine WL_guard rfl rfl ?_
      refine WL_not rfl rfl ?_
      refine WL_pick_f rfl rfl rfl ?_
      refine WL_nil ?_
      have hq2 := Option.some.inj hr1
      subst hq2
      refine nrm_sub (l' := [(0, u1), (3, (ptr b1 0)), (14, (.bool (!x2)))]) ⟨rfl, rfl, rfl, trivial⟩ ?_
      exact ⟨(!x2), rfl, rfl, (Keep.of hB3).below, hC3⟩
  · rintro _ w2 ⟨x1, rfl, rfl, hB2, hC2⟩
    try dsimp only at hF
    refine W_cond rfl (fun hc2 => ?_) (fun hc2 => ?_)
    · replace hF := ite_t hF hc2
      refine W_seq_reg ?_
      refine WL_assign rfl rfl ?_
      refine WL_nil ?_
      refine W_ret ?_
      refine nrm_ret ?_
      have hq3 := Option.some.inj hF
      subst hq3
      refine fn_ret1 rfl rfl ?_
      exact ⟨_, rfl, bool_res hC2 _⟩
    · replace hF := ite_f hF hc2
      refine W_skip ?_
      refine nrm_normal ?_
      refine W_seq ?_
      refine W_seq_reg ?_
      refine WL_move rfl rfl ?_
      refine WL_len Try.underlying27 g1 rfl rfl ?_
      refine WL_move rfl rfl ?_
      refine WL_nil ?_
      obtain ⟨r2, hr3, hF⟩ := bind_some hF
      refine W_norm (fun l w => .inl () = r2 ∧ l = [] ∧ Below w2.heap.size w2 w ∧ Ctx [] w0 w []) ?_ ?_
      · refine W_block ?_
        refine W.sub (l' := [(0, u1), (3, (ptr b1 0)), (15, u1), (16, (.int .i64 (List.length a1 : Int))), (17, (.int .i64 0))]) ?_ ⟨rfl, rfl, rfl, rfl, rfl, trivial⟩
        refine W_loop (fun k l w => ∃ x3 : Int, l = [(0, u1), (3, (ptr b1 0)), (15, u1), (16, (.int .i64 (List.length a1 : Int))), (17, (.int .i64 x3))] ∧ Below w2.heap.size w2 w ∧ Ctx [] w0 w [Item.box b1 [(.int .i64 a2.1), (.int .i64 a2.2)]] ∧ M.IsKept_l1 a1 a2 k x3 = some r2) FUEL ⟨0, rfl, (Below.refl _ _), hC2, hr3⟩ ?_
        clear hr3
        rintro k1 _ w4 ⟨x3, rfl, hB4, hC4, hL1⟩
        cases k1 with
        | zero => rw [M.IsKept_l1] at hL1; cases hL1
        | succ k1 =>
          rw [M.IsKept_l1] at hL1
          refine W_seq_reg ?_
          refine WL_lss rfl rfl rfl ?_
          refine WL_nil ?_
          refine W_seq ?_
          refine W_cond rfl (fun hc3 => ?_) (fun hc3 => ?_)
          · replace hL1 := ite_t hL1 hc3
            refine W_skip ?_
            refine nrm_normal ?_
            refine W_seq ?_
            refine W_block ?_
            refine W_seq_reg ?_
            refine WL_move rfl rfl ?_
            obtain ⟨x4, hx1, hL1⟩ := bind_some hL1
            refine WL_index Try.underlying27 ty3 g1 hx1 rfl rfl rfl (fun b2 o1 h1 => ?_)
            refine WL_load ty3 h1 hC4.keep rfl rfl (fun v1 h2 => ?_)
            obtain rfl := ro_int h2
            refine WL_assign rfl rfl ?_
            refine WL_assign rfl rfl ?_
            refine WL_nil ?_
            obtain ⟨r3, hr4, hL1⟩ := bind_some hL1
            refine W_cut (fun l w => ∃ x5 : Bool, x5 = r3 ∧ l = [(0, u1), (3, (ptr b1 0)), (15, u1), (16, (.int .i64 (List.length a1 : Int))), (17, (.int .i64 x3)), (47, (.bool x5))] ∧ Below w4.heap.size w4 w ∧ Ctx [] w0 w [Item.box b1 [(.int .i64 a2.1), (.int .i64 a2.2)]]) ?_ ?_
            · refine W_drawn 26 rfl hmix (fun w6 hB6 => ?_)
              have hC6 := hC4.grow hB6
              refine WA_take 0 rfl (by kernel_rfl) (by kernel_rfl) (by kernel_rfl) rfl (fl_move rfl) ?_
              refine WL_move rfl rfl ?_
              refine WL_nil ?_
              obtain ⟨x6, hr5, hr4⟩ := bind_some hr4
              refine WA_one 1 (by kernel_rfl) rfl ?_
              refine WL_call Try.call85 rfl rfl (c_M_isTime x4 x6 hr5) ?_
              intro _ w7 hv2
              obtain ⟨rfl, hB7⟩ := res_bool hv2
              have hC7 := hC6.grow hB7
              refine WL_nil ?_
              refine WA_take 2 rfl (by kernel_rfl) (by kernel_rfl) (by kernel_rfl) rfl (fl_not rfl) ?_
              refine WL_not rfl rfl ?_
              refine WL_nil ?_
              refine WA_take 3 rfl (by kernel_rfl) (by kernel_rfl) (by kernel_rfl) rfl (fl_move rfl) ?_
              refine WL_move rfl rfl ?_
              refine WL_nil ?_
              refine WA_fork (fun hc4 => ?_) (fun hc4 => ?_)
              · replace hr4 := ite_t hr4 hc4
                refine WA_skip 4 rfl (by kernel_rfl) (by kernel_rfl) (by kernel_rfl) rfl rfl rfl (by simp) rfl rfl ?_
                refine WA_skip 5 rfl (by kernel_rfl) (by kernel_rfl) (by kernel_rfl) rfl rfl rfl (by simp) rfl rfl ?_
                refine WA_skip 6 rfl (by kernel_rfl) (by kernel_rfl) (by kernel_rfl) rfl rfl rfl (by simp) rfl rfl ?_
                refine WA_skip 7 rfl (by kernel_rfl) (by kernel_rfl) (by kernel_rfl) rfl rfl rfl (by simp [undef]) rfl rfl ?_
                refine WA_skip 8 rfl (by kernel_rfl) (by kernel_rfl) (by kernel_rfl) rfl rfl rfl (by simp [undef]) rfl rfl ?_
                refine WA_skip 9 rfl (by kernel_rfl) (by kernel_rfl) (by kernel_rfl) rfl rfl rfl (by simp [undef]) rfl rfl ?_
                refine WA_skip 10 rfl (by kernel_rfl) (by kernel_rfl) (by kernel_rfl) rfl rfl rfl (by simp [undef]) rfl rfl ?_
                refine WA_skip 11 rfl (by kernel_rfl) (by kernel_rfl) (by kernel_rfl) rfl rfl rfl (by simp [undef]) rfl rfl ?_
                refine WA_skip 12 rfl (by kernel_rfl) (by kernel_rfl) (by kernel_rfl) rfl rfl rfl (by simp [undef]) rfl rfl ?_
                refine WA_skip 13 rfl (by kernel_rfl) (by kernel_rfl) (by kernel_rfl) rfl rfl rfl (by simp [undef]) rfl rfl ?_
                refine WA_skip 14 rfl (by kernel_rfl) (by kernel_rfl) (by kernel_rfl) rfl rfl rfl (by simp) rfl rfl ?_
                refine WA_take 15 rfl (by kernel_rfl) (by kernel_rfl) (by kernel_rfl) rfl (fl_pick_t rfl rfl) ?_
                refine WL_pick_t rfl rfl rfl ?_
                refine WL_nil ?_
                refine WA_take 16 rfl (by kernel_rfl) (by kernel_rfl) (by kernel_rfl) rfl (fl_move rfl) ?_
                refine WL_move rfl rfl ?_
                refine WL_nil ?_
                refine WA_skip 17 rfl (by kernel_rfl) (by kernel_rfl) (by kernel_rfl) rfl rfl rfl (by simp) rfl rfl ?_
                refine WA_skip 18 rfl (by kernel_rfl) (by kernel_rfl) (by kernel_rfl) rfl rfl rfl (by simp) rfl rfl ?_
                refine WA_skip 19 rfl (by kernel_rfl) (by kernel_rfl) (by kernel_rfl) rfl rfl rfl (by simp) rfl rfl ?_
                refine WA_skip 20 rfl (by kernel_rfl) (by kernel_rfl) (by kernel_rfl) rfl rfl rfl (by simp) rfl rfl ?_
                refine WA_skip 21 rfl (by kernel_rfl) (by kernel_rfl) (by kernel_rfl) rfl rfl rfl (by simp) rfl rfl ?_
                refine WA_skip 22 rfl (by kernel_rfl) (by kernel_rfl) (by kernel_rfl) rfl rfl rfl (by simp) rfl rfl ?_
                refine WA_skip 23 rfl (by kernel_rfl) (by kernel_rfl) (by kernel_rfl) rfl rfl rfl (by simp) rfl rfl ?_
                refine WA_skip 24 rfl (by kernel_rfl) (by kernel_rfl) (by kernel_rfl) rfl rfl rfl (by simp) rfl rfl ?_
                refine WA_take 25 rfl (by kernel_rfl) (by kernel_rfl) (by kernel_rfl) rfl (fl_pick_t rfl rfl) ?_
                refine WL_pick_t rfl rfl rfl ?_
                refine WL_nil ?_
                refine WA_done (by kernel_rfl) ?_
                have hq4 := Option.some.inj hr4
                subst hq4
                refine nrm_sub (l' := [(0, u1), (3, (ptr b1 0)), (15, u1), (16, (.int .i64 (List.length a1 : Int))), (17, (.int .i64 x3)), (47, (.bool true))]) ⟨rfl, rfl, rfl, rfl, rfl, rfl, trivial⟩ ?_
                exact ⟨true, rfl, rfl, ((Keep.of hB6).then hB7).below, hC7⟩
              · replace hr4 := ite_f hr4 hc4
                refine WA_takeG 4 rfl (by kernel_rfl) (by kernel_rfl) (by kernel_rfl) rfl rfl rfl (fl_move rfl) ?_
                refine WL_guard rfl rfl ?_
                refine WL_move rfl rfl ?_
                refine WL_nil ?_
                refine WA_takeG 5 rfl (by kernel_rfl) (by kernel_rfl) (by kernel_rfl) rfl rfl rfl (fl_gtr rfl rfl) ?_
                refine WL_guard rfl rfl ?_
                refine WL_gtr rfl rfl rfl ?_
                refine WL_nil ?_
                refine WA_takeG 6 rfl (by kernel_rfl) (by kernel_rfl) (by kernel_rfl) rfl rfl rfl (fl_move rfl) ?_
                refine WL_guard rfl rfl ?_
                refine WL_move rfl rfl ?_
                refine WL_nil ?_
                refine WA_fork (fun hc5 => ?_) (fun hc5 => ?_)
                · replace hr4 := ite_t hr4 hc5
                  refine WA_takeG 7 rfl (by kernel_rfl) (by kernel_rfl) (by kernel_rfl) rfl rfl rfl (fl_move rfl) ?_
                  refine WL_guard rfl rfl ?_
                  refine WL_move rfl rfl ?_
                  refine WL_nil ?_
                  refine WA_takeG 8 rfl (by kernel_rfl) (by kernel_rfl) (by kernel_rfl) rfl rfl rfl (fl_move rfl) ?_
                  refine WL_guard rfl rfl ?_
                  refine WL_move rfl rfl ?_
                  refine WL_nil ?_
                  refine WA_takeG 9 rfl (by kernel_rfl) (by kernel_rfl) (by kernel_rfl) rfl rfl rfl (fl_move rfl) ?_
                  refine WL_guard rfl rfl ?_
                  refine WL_move rfl rfl ?_
                  refine WL_nil ?_
                  refine WA_takeG 10 rfl (by kernel_rfl) (by kernel_rfl) (by kernel_rfl) rfl rfl rfl (fl_sub rfl rfl) ?_
                  refine WL_guard rfl rfl ?_
                  refine WL_sub rfl rfl rfl ?_
                  refine WL_nil ?_
                  obtain ⟨x7, hx2, hr4⟩ := bind_some hr4
                  refine WA_takeG 11 rfl (by kernel_rfl) (by kernel_rfl) (by kernel_rfl) rfl rfl rfl (fl_index Try.underlying27 ty3 g1 hx2 rfl rfl) ?_
                  refine WL_guard rfl rfl ?_
                  refine WL_index Try.underlying27 ty3 g1 hx2 rfl rfl rfl (fun b3 o2 h3 => ?_)
                  refine WL_nil ?_
                  refine WA_one 12 (by kernel_rfl) rfl ?_
                  refine WL_guard rfl rfl ?_
                  refine WL_load ty3 h3 hC7.keep rfl rfl (fun v2 h4 => ?_)
                  obtain rfl := ro_int h4
                  refine WL_nil ?_
                  refine WA_takeG 13 rfl (by kernel_rfl) (by kernel_rfl) (by kernel_rfl) rfl rfl rfl (fl_lss rfl rfl) ?_
                  refine WL_guard rfl rfl ?_
                  refine WL_lss rfl rfl rfl ?_
                  refine WL_nil ?_
                  refine WA_takeG 14 rfl (by kernel_rfl) (by kernel_rfl) (by kernel_rfl) rfl rfl rfl (fl_pick_t rfl rfl) ?_
                  refine WL_guard rfl rfl ?_
                  refine WL_pick_t rfl rfl rfl ?_
                  refine WL_nil ?_
                  refine WA_take 15 rfl (by kernel_rfl) (by kernel_rfl) (by kernel_rfl) rfl (fl_pick_f rfl rfl) ?_
                  refine WL_pick_f rfl rfl rfl ?_
                  refine WL_nil ?_
                  refine WA_take 16 rfl (by kernel_rfl) (by kernel_rfl) (by kernel_rfl) rfl (fl_move rfl) ?_
                  refine WL_move rfl rfl ?_
                  refine WL_nil ?_
                  refine WA_fork (fun hc6 => ?_) (fun hc6 => ?_)
                  · replace hr4 := ite_t hr4 hc6
                    refine WA_skip 17 rfl (by kernel_rfl) (by kernel_rfl) (by kernel_rfl) rfl rfl rfl (by simp) rfl rfl ?_
                    refine WA_skip 18 rfl (by kernel_rfl) (by kernel_rfl) (by kernel_rfl) rfl rfl rfl (by simp) rfl rfl ?_
                    refine WA_skip 19 rfl (by kernel_rfl) (by kernel_rfl) (by kernel_rfl) rfl rfl rfl (by simp) rfl rfl ?_
                    refine WA_skip 20 rfl (by kernel_rfl) (by kernel_rfl) (by kernel_rfl) rfl rfl rfl (by simp) rfl rfl ?_
                    refine WA_skip 21 rfl (by kernel_rfl) (by kernel_rfl) (by kernel_rfl) rfl rfl rfl (by simp) rfl rfl ?_
                    refine WA_skip 22 rfl (by kernel_rfl) (by kernel_rfl) (by kernel_rfl) rfl rfl rfl (by simp) rfl rfl ?_
                    refine WA_skip 23 rfl (by kernel_rfl) (by kernel_rfl) (by kernel_rfl) rfl rfl rfl (by simp) rfl rfl ?_
                    refine WA_skip 24 rfl (by kernel_rfl) (by kernel_rfl) (by kernel_rfl) rfl rfl rfl (by simp) rfl rfl ?_
                    refine WA_take 25 rfl (by kernel_rfl) (by kernel_rfl) (by kernel_rfl) rfl (fl_pick_t rfl rfl) ?_
                    refine WL_pick_t rfl rfl rfl ?_
                    refine WL_nil ?_
                    refine WA_done (by kernel_rfl) ?_
                    have hq5 := Option.some.inj hr4
                    subst hq5
                    refine nrm_sub (l' := [(0, u1), (3, (ptr b1 0)), (15, u1), (16, (.int .i64 (List.length a1 : Int))), (17, (.int .i64 x3)), (47, (.bool true))]) ⟨rfl, rfl, rfl, rfl, rfl, rfl, trivial⟩ ?_
                    exact ⟨true, rfl, rfl, ((Keep.of hB6).then hB7).below, hC7⟩
                  · replace hr4 := ite_f hr4 hc6
                    refine WA_takeG 17 rfl (by kernel_rfl) (by kernel_rfl) (by kernel_rfl) rfl rfl rfl (fl_move rfl) ?_
                    refine WL_guard rfl rfl ?_
                    refine WL_move rfl rfl ?_
                    refine WL_nil ?_
                    refine WA_takeG 18 rfl (by kernel_rfl) (by kernel_rfl) (by kernel_rfl) rfl rfl rfl (fl_move rfl) ?_
                    refine WL_guard rfl rfl ?_
                    refine WL_move rfl rfl ?_
                    refine WL_nil ?_
                    refine WA_takeG 19 rfl (by kernel_rfl) (by kernel_rfl) (by kernel_rfl) rfl rfl rfl (fl_field Try.underlying41 rfl rfl (fun w => ⟨_, Try.sizeOf3 w⟩) rfl) ?_
                    refine WL_guard rfl rfl ?_
                    refine WL_field Try.underlying41 rfl rfl (fun w => ⟨_, Try.sizeOf3 w⟩) rfl rfl ?_
                    refine WL_nil ?_
                    refine WA_takeG 22 rfl (by kernel_rfl) (by kernel_rfl) (by kernel_rfl) rfl rfl rfl (fl_field Try.underlying41 rfl rfl (fun w => ⟨_, Try.sizeOf3 w⟩) rfl) ?_
                    refine WL_guard rfl rfl ?_
                    refine WL_field Try.underlying41 rfl rfl (fun w => ⟨_, Try.sizeOf3 w⟩) rfl rfl ?_
                    refine WL_nil ?_
                    obtain ⟨x8, hr6, hr4⟩ := bind_some hr4
                    refine WA.sub (l' := [(0, u1), (3, (ptr b1 0)), (5, (.int .i64 x3)), (6, (.int .i64 x4)), (15, u1), (16, (.int .i64 (List.length a1 : Int))), (17, (.int .i64 x3)), (18, (.bool (decide (x3 < (List.length a1 : Int))))), (19, (.int .i64 x3)), (20, (ptr b2 o1)), (21, (.int .i64 x4)), (22, (.int .i64 x4)), (23, (.bool x6)), (24, (.bool (!x6))), (25, (.bool false)), (26, (.int .i64 x3)), (27, (.bool (decide (0 < x3)))), (28, (.bool true)), (29, (.int .i64 x4)), (30, u1), (31, (.int .i64 x3)), (32, (.int .i64 (w64 (x3 - 1)))), (33, (ptr b3 o2)), (34, (.int .i64 x7)), (35, (.bool (decide (x4 < x7)))), (36, (.bool (decide (x4 < x7)))), (37, (.bool (decide (x4 < x7)))), (38, (.bool false)), (39, u1), (40, (.int .i64 x4)), (41, (ptr b1 0)), (44, (ptr b1 1))]) ?_ ⟨rfl, rfl, rfl, rfl, rfl, rfl, rfl, rfl, rfl, rfl, rfl, rfl, rfl, rfl, rfl, rfl, rfl, rfl, rfl, rfl, rfl, rfl, rfl, rfl, rfl, rfl, rfl, rfl, rfl, rfl, rfl, rfl, trivial⟩
                    refine WA_postsE [⟨20, [], fun vs => PW.val (.int .i64 a2.1), []⟩, ⟨21, [], fun vs => PW.val (.int .i64 x8), []⟩, ⟨23, [], fun vs => PW.val (.int .i64 a2.2), []⟩] [[], [20], []] 2 rfl (by kernel_rfl) (by kernel_rfl) rfl ?_ ?_
                    · refine StepsE_cons rfl ?_ ?_
                      · intro w9 hB9
                        refine DepsE_nil ?_
                        refine ⟨_, rfl, ?_⟩
                        refine WL_guard rfl rfl ?_
                        refine WL_load_box (hC7.grow hB9) 0 rfl rfl Try.isAgg3 rfl rfl ?_
                        refine WL_nil ?_
                        exact FinE_val (Below.refl _ _) rfl rfl ⟨rfl, rfl⟩
                      refine StepsE_cons rfl ?_ ?_
                      · intro w9 hB9
                        refine DepsE_cons rfl rfl rfl ?_
                        rintro _ _ ⟨rfl, rfl⟩ _
                        refine DepsE_nil ?_
                        refine ⟨_, rfl, ?_⟩
                        refine WL_guard rfl rfl ?_
                        refine WL_call Try.call62 rfl rfl (c_M_CallsIn a1 u1 (g1.now (hC7.keep.then hB9)) x4 a2.1 x8 hr6) ?_
                        intro _ w8 hv3
                        obtain ⟨rfl, hB8⟩ := res_int hv3
                        refine WL_nil ?_
                        exact FinE_val hB8 rfl rfl ⟨rfl, rfl⟩
                      refine StepsE_cons rfl ?_ ?_
                      · intro w9 hB9
                        refine DepsE_nil ?_
                        refine ⟨_, rfl, ?_⟩
                        refine WL_guard rfl rfl ?_
                        refine WL_load_box (hC7.grow hB9) 0 rfl rfl Try.isAgg3 rfl rfl ?_
                        refine WL_nil ?_
                        exact FinE_val (Below.refl _ _) rfl rfl ⟨rfl, rfl⟩
                      exact StepsE_nil
                    · intro w10 hB10
                      refine AllE_cons rfl rfl rfl ?_
                      rintro _ _ ⟨rfl, rfl⟩
                      refine AllE_cons rfl rfl rfl ?_
                      rintro _ _ ⟨rfl, rfl⟩
                      refine AllE_cons rfl rfl rfl ?_
                      rintro _ _ ⟨rfl, rfl⟩
                      refine AllE_nil ?_
                      intro hn1 hb1
                      have hC8 := hC7.grow hB10
                      refine WA_takeG 24 rfl (by kernel_rfl) (by kernel_rfl) (by kernel_rfl) rfl rfl rfl (fl_gtr rfl rfl) ?_
                      refine WL_guard rfl rfl ?_
                      refine WL_gtr rfl rfl rfl ?_
                      refine WL_nil ?_
                      refine WA_take 25 rfl (by kernel_rfl) (by kernel_rfl) (by kernel_rfl) rfl (fl_pick_f rfl rfl) ?_
                      refine WL_pick_f rfl rfl rfl ?_
                      refine WL_nil ?_
                      refine WA_done (by kernel_rfl) ?_
                      have hq6 := Option.some.inj hr4
                      subst hq6
                      refine nrm_sub (l' := [(0, u1), (3, (ptr b1 0)), (15, u1), (16, (.int .i64 (List.length a1 : Int))), (17, (.int .i64 x3)), (47, (.bool (decide (a2.2 < x8))))]) ⟨rfl, rfl, rfl, rfl, rfl, rfl, trivial⟩ ?_
                      exact ⟨(decide (a2.2 < x8)), rfl, rfl, (((Keep.of hB6).then hB7).then hB10).below, hC8⟩
                · replace hr4 := ite_f hr4 hc5
                  refine WA_skip 7 rfl (by kernel_rfl) (by kernel_rfl) (by kernel_rfl) rfl rfl rfl (by simp) rfl rfl ?_
                  refine WA_skip 8 rfl (by kernel_rfl) (by kernel_rfl) (by kernel_rfl) rfl rfl rfl (by simp) rfl rfl ?_
                  refine WA_skip 9 rfl (by kernel_rfl) (by kernel_rfl) (by kernel_rfl) rfl rfl rfl (by simp) rfl rfl ?_
                  refine WA_skip 10 rfl (by kernel_rfl) (by kernel_rfl) (by kernel_rfl) rfl rfl rfl (by simp) rfl rfl ?_
                  refine WA_skip 11 rfl (by kernel_rfl) (by kernel_rfl) (by kernel_rfl) rfl rfl rfl (by simp) rfl rfl ?_
                  refine WA_skip 12 rfl (by kernel_rfl) (by kernel_rfl) (by kernel_rfl) rfl rfl rfl (by simp) rfl rfl ?_
                  refine WA_skip 13 rfl (by kernel_rfl) (by kernel_rfl) (by kernel_rfl) rfl rfl rfl (by simp) rfl rfl ?_
                  refine WA_takeG 14 rfl (by kernel_rfl) (by kernel_rfl) (by kernel_rfl) rfl rfl rfl (fl_pick_f rfl rfl) ?_
                  refine WL_guard rfl rfl ?_
                  refine WL_pick_f rfl rfl rfl ?_
                  refine WL_nil ?_
                  refine WA_take 15 rfl (by kernel_rfl) (by kernel_rfl) (by kernel_rfl) rfl (fl_pick_f rfl rfl) ?_
                  refine WL_pick_f rfl rfl rfl ?_
                  refine WL_nil ?_
                  refine WA_take 16 rfl (by kernel_rfl) (by kernel_rfl) (by kernel_rfl) rfl (fl_move rfl) ?_
                  refine WL_move rfl rfl ?_
                  refine WL_nil ?_
                  refine WA_takeG 17 rfl (by kernel_rfl) (by kernel_rfl) (by kernel_rfl) rfl rfl rfl (fl_move rfl) ?_
                  refine WL_guard rfl rfl ?_
                  refine WL_move rfl rfl ?_
                  refine WL_nil ?_
                  refine WA_takeG 18 rfl (by kernel_rfl) (by kernel_rfl) (by kernel_rfl) rfl rfl rfl (fl_move rfl) ?_
                  refine WL_guard rfl rfl ?_
                  refine WL_move rfl rfl ?_
                  refine WL_nil ?_
                  refine WA_takeG 19 rfl (by kernel_rfl) (by kernel_rfl) (by kernel_rfl) rfl rfl rfl (fl_field Try.underlying41 rfl rfl (fun w => ⟨_, Try.sizeOf3 w⟩) rfl) ?_
                  refine WL_guard rfl rfl ?_
                  refine WL_field Try.underlying41 rfl rfl (fun w => ⟨_, Try.sizeOf3 w⟩) rfl rfl ?_
                  refine WL_nil ?_
                  refine WA_takeG 22 rfl (by kernel_rfl) (by kernel_rfl) (by kernel_rfl) rfl rfl rfl (fl_field Try.underlying41 rfl rfl (fun w => ⟨_, Try.sizeOf3 w⟩) rfl) ?_
                  refine WL_guard rfl rfl ?_
                  refine WL_field Try.underlying41 rfl rfl (fun w => ⟨_, Try.sizeOf3 w⟩) rfl rfl ?_
                  refine WL_nil ?_
                  obtain ⟨x9, hr7, hr4⟩ := bind_some hr4
                  refine WA.sub (l' := [(0, u1), (3, (ptr b1 0)), (5, (.int .i64 x3)), (6, (.int .i64 x4)), (15, u1), (16, (.int .i64 (List.length a1 : Int))), (17, (.int .i64 x3)), (18, (.bool (decide (x3 < (List.length a1 : Int))))), (19, (.int .i64 x3)), (20, (ptr b2 o1)), (21, (.int .i64 x4)), (22, (.int .i64 x4)), (23, (.bool x6)), (24, (.bool (!x6))), (25, (.bool false)), (26, (.int .i64 x3)), (27, (.bool (decide (0 < x3)))), (28, (.bool false)), (36, (.bool false)), (37, (.bool false)), (38, (.bool false)), (39, u1), (40, (.int .i64 x4)), (41, (ptr b1 0)), (44, (ptr b1 1))]) ?_ ⟨rfl, rfl, rfl, rfl, rfl, rfl, rfl, rfl, rfl, rfl, rfl, rfl, rfl, rfl, rfl, rfl, rfl, rfl, rfl, rfl, rfl, rfl, rfl, rfl, rfl, trivial⟩
                  refine WA_postsE [⟨20, [], fun vs => PW.val (.int .i64 a2.1), []⟩, ⟨21, [], fun vs => PW.val (.int .i64 x9), []⟩, ⟨23, [], fun vs => PW.val (.int .i64 a2.2), []⟩] [[], [20], []] 2 rfl (by kernel_rfl) (by kernel_rfl) rfl ?_ ?_
                  · refine StepsE_cons rfl ?_ ?_
                    · intro w12 hB12
                      refine DepsE_nil ?_
                      refine ⟨_, rfl, ?_⟩
                      refine WL_guard rfl rfl ?_
                      refine WL_load_box (hC7.grow hB12) 0 rfl rfl Try.isAgg3 rfl rfl ?_
                      refine WL_nil ?_
                      exact FinE_val (Below.refl _ _) rfl rfl ⟨rfl, rfl⟩
                    refine StepsE_cons rfl ?_ ?_
                    · intro w12 hB12
                      refine DepsE_cons rfl rfl rfl ?_
                      rintro _ _ ⟨rfl, rfl⟩ _
                      refine DepsE_nil ?_
                      refine ⟨_, rfl, ?_⟩
                      refine WL_guard rfl rfl ?_
                      refine WL_call Try.call62 rfl rfl (c_M_CallsIn a1 u1 (g1.now (hC7.keep.then hB12)) x4 a2.1 x9 hr7) ?_
                      intro _ w11 hv4
                      obtain ⟨rfl, hB11⟩ := res_int hv4
                      refine WL_nil ?_
                      exact FinE_val hB11 rfl rfl ⟨rfl, rfl⟩
                    refine StepsE_cons rfl ?_ ?_
                    · intro w12 hB12
                      refine DepsE_nil ?_
                      refine ⟨_, rfl, ?_⟩
                      refine WL_guard rfl rfl ?_
                      refine WL_load_box (hC7.grow hB12) 0 rfl rfl Try.isAgg3 rfl rfl ?_
                      refine WL_nil ?_
                      exact FinE_val (Below.refl _ _) rfl rfl ⟨rfl, rfl⟩
                    exact StepsE_nil
                  · intro w13 hB13
                    refine AllE_cons rfl rfl rfl ?_
                    rintro _ _ ⟨rfl, rfl⟩
                    refine AllE_cons rfl rfl rfl ?_
                    rintro _ _ ⟨rfl, rfl⟩
                    refine AllE_cons rfl rfl rfl ?_
                    rintro _ _ ⟨rfl, rfl⟩
                    refine AllE_nil ?_
                    intro hn2 hb2
                    have hC9 := hC7.grow hB13
                    refine WA_takeG 24 rfl (by kernel_rfl) (by kernel_rfl) (by kernel_rfl) rfl rfl rfl (fl_gtr rfl rfl) ?_
                    refine WL_guard rfl rfl ?_
                    refine WL_gtr rfl rfl rfl ?_
                    refine WL_nil ?_
                    refine WA_take 25 rfl (by kernel_rfl) (by kernel_rfl) (by kernel_rfl) rfl (fl_pick_f rfl rfl) ?_
                    refine WL_pick_f rfl rfl rfl ?_
                    refine WL_nil ?_
                    refine WA_done (by kernel_rfl) ?_
                    have hq7 := Option.some.inj hr4
                    subst hq7
                    refine nrm_sub (l' := [(0, u1), (3, (ptr b1 0)), (15, u1), (16, (.int .i64 (List.length a1 : Int))), (17, (.int .i64 x3)), (47, (.bool (decide (a2.2 < x9))))]) ⟨rfl, rfl, rfl, rfl, rfl, rfl, trivial⟩ ?_
                    exact ⟨(decide (a2.2 < x9)), rfl, rfl, (((Keep.of hB6).then hB7).then hB13).below, hC9⟩
            · rintro _ w5 ⟨x5, rfl, rfl, hB5, hC5⟩
              try dsimp only at hL1
              refine W_cond rfl (fun hc7 => ?_) (fun hc7 => ?_)
              · replace hL1 := ite_t hL1 hc7
                refine W_seq_reg ?_
                refine WL_assign rfl rfl ?_
                refine WL_nil ?_
                refine W_ret ?_
                refine blk_ret ?_
                refine nrm_ret ?_
                refine nrm_ret ?_
                refine blk_ret ?_
                refine nrm_ret ?_
                refine nrm_ret ?_
                have hq8 := Option.some.inj hL1
                subst hq8
                dsimp only at hF
                have hq9 := Option.some.inj hF
                subst hq9
                refine fn_ret1 rfl rfl ?_
                exact ⟨_, rfl, bool_res hC5 _⟩
              · replace hL1 := ite_f hL1 hc7
                refine W_skip ?_
                refine blk_normal ?_
                refine nrm_normal ?_
                refine W_reg ?_
                refine WL_add rfl rfl rfl ?_
                refine WL_move rfl rfl ?_
                refine WL_nil ?_
                refine nrm_sub (l' := [(0, u1), (3, (ptr b1 0)), (15, u1), (16, (.int .i64 (List.length a1 : Int))), (17, (.int .i64 (w64 (x3 + 1))))]) ⟨rfl, rfl, rfl, rfl, rfl, trivial⟩ ?_
                exact ⟨k1, Nat.lt_succ_self _, w64 (x3 + 1), rfl, ((Keep.of hB4).then hB5).below, hC5, hL1⟩
          · replace hL1 := ite_f hL1 hc3
            refine W_exit ?_
            refine nrm_exit ?_
            refine nrm_exit ?_
            refine blk_exit ?_
            have hq10 := Option.some.inj hL1
            subst hq10
            have hC10 : Ctx [] w0 _ [] := hC4.headN 0
            refine nrm_sub (l' := []) trivial ?_
            exact ⟨rfl, rfl, (Keep.of hB4).below, hC10⟩
      · rintro l4 _ w14 hs4 ⟨rfl, rfl, hB14, hC11⟩
        try dsimp only at hF
        refine nrm_sub' hs4 ?_
        clear hs4
        refine W_seq_reg ?_
        refine WL_assign rfl rfl ?_
        refine WL_nil ?_
        refine W_ret ?_
        have hq11 := Option.some.inj hF
        subst hq11
        refine fn_ret1 rfl rfl ?_
        exact ⟨_, rfl, bool_res hC11 _⟩

theorem c_M_NextTime {w0 : World} (a1 : (List Int)) (u1 : Value) (g1 : RO [] w0 u1 a1) (a2 : (Int × Int)) (a3 : Int) (rr : (Int × Bool)) (hF : M.NextTime a1 a2 a3 = some rr) :
    Calls Try.prog 29 [u1, (.agg #[(.int .i64 a2.1), (.int .i64 a2.2)]), (.int .i64 a3)].toArray w0 fun e w' => ∃ v, e = .returned v ∧ Res2 w0 rr.1 rr.2 v w' := by
  refine calls_of_W Try.func29 rfl rfl ?_
  have hC0 := Ctx.start w0
  unfold M.NextTime at hF
  refine W_seq_reg ?_
  refine WL_box (cs := [(.int .i64 a2.1), (.int .i64 a2.2)]) hC0 rfl rfl rfl (fun b1 w1 hC1 hB1 => ?_)
  refine WL_assign rfl rfl ?_
  refine WL_assign rfl rfl ?_
  refine WL_nil ?_
  refine W_seq ?_
  obtain ⟨r1, hr1, hF⟩ := bind_some hF
  refine W_cut (fun l w => ∃ x1 : Bool, x1 = r1 ∧ l = [(0, u1), (2, (.int .i64 a3)), (4, (ptr b1 0)), (16, (.bool x1))] ∧ Below w1.heap.size w1 w ∧ Ctx [] w0 w [Item.box b1 [(.int .i64 a2.1), (.int .i64 a2.2)]]) ?_ ?_
  · refine W_reg ?_
    refine WL_move rfl rfl ?_
    refine WL_load_box_agg [(.int .i64 a2.1), (.int .i64 a2.2)] hC1 0 rfl rfl rfl Try.isAgg41 Try.sizeOf41 rfl rfl ?_
    obtain ⟨x2, hr2, hr1⟩ := bind_some hr1
    refine WL_call Try.call56 rfl rfl (c_M_IsKept a1 u1 (g1.now hC1.keep) (a2.1, a2.2) x2 hr2) ?_
    intro _ w3 hv1
    obtain ⟨rfl, hB3⟩ := res_bool hv1
    have hC3 := hC1.grow hB3
    refine WL_not rfl rfl ?_
    refine WL_move rfl rfl ?_
    refine WL_fork (fun hc1 => ?_) (fun hc1 => ?_)
    · replace hr1 := ite_t hr1 hc1
      refine WL_guard_skip rfl rfl (by simp) rfl ?_
      refine WL_guard_skip rfl rfl (by simp) rfl ?_
      refine WL_guard_skip rfl rfl (by simp) rfl ?_
      refine WL_pick_t rfl rfl rfl ?_
      refine WL_nil ?_
      have hq1 := Option.some.inj hr1
      subst hq1
      refine nrm_sub (l' := [(0, u1), (2, (.int .i64 a3)), (4, (ptr b1 0)), (16, (.bool true))]) ⟨rfl, rfl, rfl, rfl, trivial⟩ ?_
      exact ⟨true, rfl, rfl, (Keep.of hB3).below, hC3⟩
    · replace hr1 := ite_f hr1 hc1
      refine WL_guard rfl rfl ?_
      refine WL_move rfl rfl ?_
      obtain ⟨x3, hr3, hr1⟩ := bind_some hr1
      refine WL_guard rfl rfl ?_
      refine WL_call Try.call85 rfl rfl (c_M_isTime a3 x3 hr3) ?_
      intro _ w4 hv2
      obtain ⟨rfl, hB4⟩ := res_bool hv2
      have hC4 := hC3.grow hB4
      refine WL_guard rfl rfl ?_
      refine WL_not rfl rfl ?_
      refine WL_pick_f rfl rfl rfl ?_
      refine WL_nil ?_
      have hq2 := Option.some.inj hr1
      subst hq2
      refine nrm_sub (l' := [(0, u1), (2, (.int .i64 a3)), (4, (ptr b1 0)), (16, (.bool (!x3)))]) ⟨rfl, rfl, rfl, rfl, trivial⟩ ?_
      exact ⟨(!x3), rfl, rfl, ((Keep.of hB3).then hB4).below, hC4⟩
  · rintro _ w2 ⟨x1, rfl, rfl, hB2, hC2⟩
    try dsimp only at hF
    refine W_cond rfl (fun hc2 => ?_) (fun hc2 => ?_)
    · replace hF := ite_t hF hc2
      refine W_seq_reg ?_
      refine WL_assign rfl rfl ?_
      refine WL_assign rfl rfl ?_
      refine WL_nil ?_
      refine W_ret ?_
      refine nrm_ret ?_
      have hq3 := Option.some.inj hF
      subst hq3
      refine fn_ret2 rfl rfl rfl ?_
      have hC5 := hC2.triv (bool_val (false))
      have hC6 := hC5.triv (int_val (0))
      exact ⟨_, rfl, res2_of hC6⟩
    · replace hF := ite_f hF hc2
      refine W_skip ?_
      refine nrm_normal ?_
      refine W_seq_reg ?_
      refine WL_load_box_agg [(.int .i64 a2.1), (.int .i64 a2.2)] hC2 0 rfl rfl rfl Try.isAgg41 Try.sizeOf41 rfl rfl ?_
      refine WL_move rfl rfl ?_
      refine WL_move rfl rfl ?_
      obtain ⟨x4, hr4, hF⟩ := bind_some hF
      refine WL_call Try.call86 rfl rfl (c_M_Window_next (a2.1, a2.2) a1 u1 (g1.now hC2.keep) a3 x4 hr4) ?_
      rintro _ w5 ⟨hB5, v1, v2, F1, F2, rfl, hv3, hv4, hn1, hb1⟩
      obtain ⟨rfl, rfl⟩ := val_int hv3
      obtain ⟨rfl, rfl⟩ := val_bool hv4
      have hC7 := hC2.grow hB5
      refine WL_extract rfl rfl rfl ?_
      refine WL_extract rfl rfl rfl ?_
      refine WL_assign rfl rfl ?_
      refine WL_assign rfl rfl ?_
      refine WL_nil ?_
      refine W_ret ?_
      have hq4 := Option.some.inj hF
      subst hq4
      refine fn_ret2 rfl rfl rfl ?_
      have hC8 := hC7.triv (bool_val (x4.2))
      have hC9 := hC8.triv (int_val (x4.1))
      exact ⟨_, rfl, res2_of hC9⟩

theorem c_Q_FnExactNextTime {w0 : World} (a1 : (List Int)) (u1 : Value) (g1 : RO [] w0 u1 a1) (a2 : (Int × Int)) (a3 : Int) (rr : Bool) (hF : Q.FnExactNextTime a1 a2 a3 = some rr) :
    Calls Try.prog 7 [u1, (.agg #[(.int .i64 a2.1), (.int .i64 a2.2)]), (.int .i64 a3)].toArray w0 fun e w' => ∃ v, e = .returned v ∧ Res w0 rr v w' := by
  refine calls_of_W Try.func7 rfl rfl ?_
  have hC0 := Ctx.start w0
  unfold Q.FnExactNextTime at hF
  refine W_seq_reg ?_
  refine WL_box (cs := [(.int .i64 a2.1), (.int .i64 a2.2)]) hC0 rfl rfl rfl (fun b1 w1 hC1 hB1 => ?_)
  refine WL_assign rfl rfl ?_
  refine WL_nil ?_
  refine W_seq ?_
  refine W_seq_reg ?_
  refine WL_move rfl rfl ?_
  refine WL_len Try.underlying27 g1 rfl rfl ?_
  refine WL_gtr rfl rfl rfl ?_
  refine WL_nil ?_
  refine W_cond rfl (fun hc1 => ?_) (fun hc1 => ?_)
  · replace hF := ite_t hF hc1
    refine W_seq_reg ?_
    refine WL_assign rfl rfl ?_
    refine WL_nil ?_
    refine W_ret ?_
    refine nrm_ret ?_
    have hq1 := Option.some.inj hF
    subst hq1
    refine fn_ret1 rfl rfl ?_
    exact ⟨_, rfl, bool_res hC1 _⟩
  · replace hF := ite_f hF hc1
    refine W_skip ?_
    refine nrm_normal ?_
    refine W_seq ?_
    refine W_drawn 11 rfl hmix (fun w2 hB2 => ?_)
    have hC2 := hC1.grow hB2
    refine WA_take 0 rfl (by kernel_rfl) (by kernel_rfl) (by kernel_rfl) rfl (fl_move rfl) ?_
    refine WL_move rfl rfl ?_
    refine WL_nil ?_
    refine WA_take 4 rfl (by kernel_rfl) (by kernel_rfl) (by kernel_rfl) rfl (fl_move rfl) ?_
    refine WL_move rfl rfl ?_
    refine WL_nil ?_
    obtain ⟨x1, hr1, hF⟩ := bind_some hF
    refine WA.sub (l' := [(0, u1), (1, (.agg #[(.int .i64 a2.1), (.int .i64 a2.2)])), (2, (.int .i64 a3)), (4, (ptr b1 0)), (6, (.bool false)), (12, u1), (13, (.int .i64 (List.length a1 : Int))), (14, (.bool (decide (1048576 < (List.length a1 : Int))))), (16, u1), (20, (.int .i64 a3))]) ?_ ⟨rfl, rfl, rfl, rfl, rfl, rfl, rfl, rfl, rfl, rfl, trivial⟩
    refine WA_postsE [⟨1, [], fun vs => PW.own x1, []⟩, ⟨2, [], fun vs => PW.val (.agg #[(.int .i64 a2.1), (.int .i64 a2.2)]), []⟩] [[], []] 7 rfl (by kernel_rfl) (by kernel_rfl) rfl ?_ ?_
    · refine StepsE_cons rfl ?_ ?_
      · intro w4 hB4
        refine DepsE_nil ?_
        refine ⟨_, rfl, ?_⟩
        refine WL_call Try.call27 rfl rfl (c_Q_toIntS a1 u1 (g1.now (hC2.keep.then hB4)) x1 hr1) ?_
        rintro v1 w3 ⟨hB3, F1, hv1, hn1, hb1⟩
        refine WL_nil ?_
        exact FinE_own hB3 rfl rfl hv1 hn1 hb1 (Val.inh hv1)
      refine StepsE_cons rfl ?_ ?_
      · intro w4 hB4
        refine DepsE_nil ?_
        refine ⟨_, rfl, ?_⟩
        refine WL_load_box_agg [(.int .i64 a2.1), (.int .i64 a2.2)] (hC2.grow hB4) 0 rfl rfl rfl Try.isAgg37 Try.sizeOf37 rfl rfl ?_
        refine WL_nil ?_
        exact FinE_val (Below.refl _ _) rfl rfl ⟨rfl, rfl⟩
      exact StepsE_nil
    · intro w5 hB5
      refine AllE_cons rfl rfl rfl ?_
      intro v1 F1 hv1
      refine AllE_cons rfl rfl rfl ?_
      rintro _ _ ⟨rfl, rfl⟩
      refine AllE_nil ?_
      intro hn2 hb2
      have hC3 := hC2.pushL hB5 (Bs := [Item.own v1 (x1 : (List Int))]) (Fs := [F1]) ⟨F1, _, rfl, hv1, rfl⟩ (by simpa using hn2) (fun b h => (hb2 b (by simpa using h)).1)
      obtain ⟨x2, hr2, hF⟩ := bind_some hF
      refine WA_one 3 (by kernel_rfl) rfl ?_
      refine WL_call Try.call28 rfl rfl (c_Q_toWindow (a2.1, a2.2) x2 hr2) ?_
      rintro v2 w6 ⟨hB6, F2, hv2, hn3, hb3⟩
      have hC4 := hC3.push hB6 (A := Item.own v2 x2) hv2 hn3 hb3
      obtain ⟨rfl, hC5⟩ := st41_own hC4
      refine WL_nil ?_
      obtain ⟨x3, hr3, hF⟩ := bind_some hF
      refine WA_one 5 (by kernel_rfl) rfl ?_
      refine WL_call Try.call26 rfl rfl (c_S_NextTime x1 v1 ((hC5.ro 0 rfl).now (Keep.refl _ _)) x2 a3 x3 hr3) ?_
      rintro _ w7 ⟨hB7, v3, v4, F3, F4, rfl, hv3, hv4, hn4, hb4⟩
      obtain ⟨rfl, rfl⟩ := val_int hv3
      obtain ⟨rfl, rfl⟩ := val_bool hv4
      have hC6 := hC5.grow hB7
      refine WL_nil ?_
      refine WA_take 6 rfl (by kernel_rfl) (by kernel_rfl) (by kernel_rfl) rfl (fl_move rfl) ?_
      refine WL_move rfl rfl ?_
      refine WL_nil ?_
      refine WA_take 7 rfl (by kernel_rfl) (by kernel_rfl) (by kernel_rfl) rfl (fl_extract rfl rfl) ?_
      refine WL_extract rfl rfl rfl ?_
      refine WL_nil ?_
      refine WA_take 8 rfl (by kernel_rfl) (by kernel_rfl) (by kernel_rfl) rfl (fl_extract rfl rfl) ?_
      refine WL_extract rfl rfl rfl ?_
      refine WL_nil ?_
      refine WA_take 9 rfl (by kernel_rfl) (by kernel_rfl) (by kernel_rfl) rfl (fl_assign rfl) ?_
      refine WL_assign rfl rfl ?_
      refine WL_nil ?_
      refine WA_take 10 rfl (by kernel_rfl) (by kernel_rfl) (by kernel_rfl) rfl (fl_assign rfl) ?_
      refine WL_assign rfl rfl ?_
      refine WL_nil ?_
      refine WA_done (by kernel_rfl) ?_
      refine nrm_normal ?_
      refine W_seq_reg ?_
      refine WL_move rfl rfl ?_
      obtain ⟨x4, hr4, hF⟩ := bind_some hF
      refine WL_call Try.call27 rfl rfl (c_Q_toIntS a1 u1 (g1.now hC6.keep) x4 hr4) ?_
      rintro v5 w8 ⟨hB8, F5, hv5, hn5, hb5⟩
      have hC7 := hC6.push hB8 (A := Item.own v5 x4) hv5 hn5 hb5
      refine WL_assign rfl rfl ?_
      refine WL_nil ?_
      refine W_seq_reg ?_
      refine WL_move rfl rfl ?_
      refine WL_load_box_agg [(.int .i64 a2.1), (.int .i64 a2.2)] hC7 2 rfl rfl rfl Try.isAgg37 Try.sizeOf37 rfl rfl ?_
      obtain ⟨x5, hr5, hF⟩ := bind_some hF
      refine WL_call Try.call28 rfl rfl (c_Q_toWindow (a2.1, a2.2) x5 hr5) ?_
      rintro v6 w9 ⟨hB9, F6, hv6, hn6, hb6⟩
      have hC8 := hC7.push hB9 (A := Item.own v6 x5) hv6 hn6 hb6
      obtain ⟨rfl, hC9⟩ := st41_own hC8
      refine WL_move rfl rfl ?_
      obtain ⟨x6, hr6, hF⟩ := bind_some hF
      refine WL_call Try.call29 rfl rfl (c_M_NextTime x4 v5 ((hC9.ro 0 rfl).now (Keep.refl _ _)) x5 a3 x6 hr6) ?_
      rintro _ w10 ⟨hB10, v7, v8, F7, F8, rfl, hv7, hv8, hn7, hb7⟩
      obtain ⟨rfl, rfl⟩ := val_int hv7
      obtain ⟨rfl, rfl⟩ := val_bool hv8
      have hC10 := hC9.grow hB10
      refine WL_move rfl rfl ?_
      refine WL_extract rfl rfl rfl ?_
      refine WL_extract rfl rfl rfl ?_
      refine WL_assign rfl rfl ?_
      refine WL_assign rfl rfl ?_
      refine WL_nil ?_
      refine W_seq ?_
      obtain ⟨r1, hr7, hF⟩ := bind_some hF
      refine W_cut (fun l w => ∃ x7 : Bool, x7 = r1 ∧ l = [(0, u1), (9, v5), (41, (.bool x7))] ∧ Below w10.heap.size w10 w ∧ Ctx [] w0 w [Item.own v5 (x4 : (List Int))]) ?_ ?_
      · refine W_reg ?_
        refine WL_move rfl rfl ?_
        refine WL_move rfl rfl ?_
        refine WL_neq rfl rfl rfl ?_
        refine WL_move rfl rfl ?_
        refine WL_fork (fun hc2 => ?_) (fun hc2 => ?_)
        · replace hr7 := ite_t hr7 hc2
          refine WL_guard_skip rfl rfl (by simp) rfl ?_
          refine WL_guard_skip rfl rfl (by simp) rfl ?_
          refine WL_guard_skip rfl rfl (by simp) rfl ?_
          refine WL_pick_t rfl rfl rfl ?_
          refine WL_nil ?_
          have hq2 := Option.some.inj hr7
          subst hq2
          have hC12 : Ctx [] w0 _ [Item.own v5 (x4 : (List Int))] := hC10.headN 1
          refine nrm_sub (l' := [(0, u1), (9, v5), (41, (.bool true))]) ⟨rfl, rfl, rfl, trivial⟩ ?_
          exact ⟨true, rfl, rfl, (Below.refl _ _), hC12⟩
        · replace hr7 := ite_f hr7 hc2
          refine WL_guard rfl rfl ?_
          refine WL_move rfl rfl ?_
          refine WL_guard rfl rfl ?_
          refine WL_move rfl rfl ?_
          refine WL_guard rfl rfl ?_
          refine WL_bool_neq Try.underlying4 rfl rfl rfl ?_
          refine WL_pick_f rfl rfl rfl ?_
          refine WL_nil ?_
          have hq3 := Option.some.inj hr7
          subst hq3
          have hC13 : Ctx [] w0 _ [Item.own v5 (x4 : (List Int))] := hC10.headN 1
          refine nrm_sub (l' := [(0, u1), (9, v5), (41, (.bool (!decide (x6.2 = x3.2))))]) ⟨rfl, rfl, rfl, trivial⟩ ?_
          exact ⟨(!decide (x6.2 = x3.2)), rfl, rfl, (Below.refl _ _), hC13⟩
      · rintro _ w11 ⟨x7, rfl, rfl, hB11, hC11⟩
        try dsimp only at hF
        refine W_cond rfl (fun hc3 => ?_) (fun hc3 => ?_)
        · replace hF := ite_t hF hc3
          refine W_seq_reg ?_
          refine WL_assign rfl rfl ?_
          refine WL_nil ?_
          refine W_ret ?_
          refine nrm_ret ?_
          have hq4 := Option.some.inj hF
          subst hq4
          refine fn_ret1 rfl rfl ?_
          exact ⟨_, rfl, bool_res hC11 _⟩
        · replace hF := ite_f hF hc3
          refine W_skip ?_
          refine nrm_normal ?_
          refine W_seq ?_
          refine W_seq_reg ?_
          refine WL_move rfl rfl ?_
          refine WL_move rfl rfl ?_
          obtain ⟨x8, hr8, hF⟩ := bind_some hF
          refine WL_call Try.call27 rfl rfl (c_Q_toIntS a1 u1 (g1.now hC11.keep) x8 hr8) ?_
          rintro v9 w12 ⟨hB12, F9, hv9, hn8, hb8⟩
          have hC14 := hC11.push hB12 (A := Item.own v9 x8) hv9 hn8 hb8
          obtain ⟨x9, hr9, hF⟩ := bind_some hF
          refine WL_call Try.call30 rfl rfl (c_Q_eqIntS x4 v5 ((hC14.ro 1 rfl).now (Keep.refl _ _)) x8 v9 ((hC14.ro 0 rfl).now (Keep.refl _ _)) x9 hr9) ?_
          intro _ w13 hv10
          obtain ⟨rfl, hB13⟩ := res_bool hv10
          have hC15 := hC14.grow hB13
          refine WL_not rfl rfl ?_
          refine WL_nil ?_
          refine W_cond rfl (fun hc4 => ?_) (fun hc4 => ?_)
          · replace hF := ite_t hF hc4
            refine W_seq_reg ?_
            refine WL_assign rfl rfl ?_
            refine WL_nil ?_
            refine W_ret ?_
            refine nrm_ret ?_
            have hq5 := Option.some.inj hF
            subst hq5
            refine fn_ret1 rfl rfl ?_
            exact ⟨_, rfl, bool_res hC15 _⟩
          · replace hF := ite_f hF hc4
            refine W_skip ?_
            refine nrm_normal ?_
            refine W_seq_reg ?_
            refine WL_assign rfl rfl ?_
            refine WL_nil ?_
            refine W_ret ?_
            have hq6 := Option.some.inj hF
            subst hq6
            refine fn_ret1 rfl rfl ?_
            exact ⟨_, rfl, bool_res hC15 _⟩

theorem c_Q_szIntS {w0 : World} (a1 : (List Int)) (u1 : Value) (g1 : RO [] w0 u1 a1) (a2 : Int) (rr : Int) (hF : Q.szIntS a1 a2 = some rr) :
    Calls Try.prog 78 [u1, (.int .i64 a2)].toArray w0 fun e w' => ∃ v, e = .returned v ∧ Res w0 rr v w' := by
  refine calls_of_W Try.func78 rfl rfl ?_
  have hC0 := Ctx.start w0
  unfold Q.szIntS at hF
  refine W_seq_reg ?_
  refine WL_assign rfl rfl ?_
  refine WL_nil ?_
  refine W_seq_reg ?_
  refine WL_move rfl rfl ?_
  refine WL_move rfl rfl ?_
  refine WL_len Try.underlying27 g1 rfl rfl ?_
  refine WL_sub rfl rfl rfl ?_
  refine WL_assign rfl rfl ?_
  refine WL_nil ?_
  refine W_seq ?_
  refine W_seq_reg ?_
  refine WL_move rfl rfl ?_
  refine WL_lss rfl rfl rfl ?_
  refine WL_nil ?_
  refine W_cond rfl (fun hc1 => ?_) (fun hc1 => ?_)
  · replace hF := ite_t hF hc1
    refine W_seq_reg ?_
    refine WL_assign rfl rfl ?_
    refine WL_nil ?_
    refine W_ret ?_
    refine nrm_ret ?_
    have hq1 := Option.some.inj hF
    subst hq1
    refine fn_ret1 rfl rfl ?_
    exact ⟨_, rfl, int_res hC0 _⟩
  · replace hF := ite_f hF hc1
    refine W_skip ?_
    refine nrm_normal ?_
    refine W_seq_reg ?_
    refine WL_move rfl rfl ?_
    refine WL_assign rfl rfl ?_
    refine WL_nil ?_
    refine W_ret ?_
    have hq2 := Option.some.inj hF
    subst hq2
    refine fn_ret1 rfl rfl ?_
    exact ⟨_, rfl, int_res hC0 _⟩

theorem c_Q_szFact {w0 : World} (a1 : (Int × (List Int))) (u1 : Value) (g1 : RO [] w0 u1 a1.2) (a2 : Int) (rr : Int) (hF : Q.szFact a1 a2 = some rr) :
    Calls Try.prog 87 [(.agg #[(.int .i64 a1.1), u1]), (.int .i64 a2)].toArray w0 fun e w' => ∃ v, e = .returned v ∧ Res w0 rr v w' := by
  refine calls_of_W Try.func87 rfl rfl ?_
  have hC0 := Ctx.start w0
  unfold Q.szFact at hF
  refine W_seq_reg ?_
  refine WL_box (cs := [(.int .i64 a1.1), u1]) hC0 rfl rfl rfl (fun b1 w1 hC1 hB1 => ?_)
  refine WL_assign rfl rfl ?_
  refine WL_nil ?_
  refine W_seq_reg ?_
  refine WL_field Try.underlying106 rfl rfl (fun w => ⟨_, Try.sizeOf27 w⟩) rfl rfl ?_
  refine WL_load_box hC1 0 rfl rfl Try.isAgg27 rfl rfl ?_
  refine WL_move rfl rfl ?_
  obtain ⟨x1, hr1, hF⟩ := bind_some hF
  refine WL_call Try.call78 rfl rfl (c_Q_szIntS a1.2 u1 (g1.now hC1.keep) a2 x1 hr1) ?_
  intro _ w2 hv1
  obtain ⟨rfl, hB2⟩ := res_int hv1
  have hC2 := hC1.grow hB2
  refine WL_assign rfl rfl ?_
  refine WL_nil ?_
  refine W_seq ?_
  refine W_seq_reg ?_
  refine WL_move rfl rfl ?_
  refine WL_lss rfl rfl rfl ?_
  refine WL_nil ?_
  refine W_cond rfl (fun hc1 => ?_) (fun hc1 => ?_)
  · replace hF := ite_t hF hc1
    refine W_seq_reg ?_
    refine WL_assign rfl rfl ?_
    refine WL_nil ?_
    refine W_ret ?_
    refine nrm_ret ?_
    have hq1 := Option.some.inj hF
    subst hq1
    refine fn_ret1 rfl rfl ?_
    exact ⟨_, rfl, int_res hC2 _⟩
  · replace hF := ite_f hF hc1
    refine W_skip ?_
    refine nrm_normal ?_
    refine W_seq_reg ?_
    refine WL_move rfl rfl ?_
    refine WL_assign rfl rfl ?_
    refine WL_nil ?_
    refine W_ret ?_
    have hq2 := Option.some.inj hF
    subst hq2
    refine fn_ret1 rfl rfl ?_
    exact ⟨_, rfl, int_res hC2 _⟩

theorem c_Q_szFactS {w0 : World} (a1 : (List (Int × (List Int)))) (u1 : Value) (g1 : RO [] w0 u1 a1) (a2 : Int) (rr : Int) (hF : Q.szFactS a1 a2 = some rr) :
    Calls Try.prog 35 [u1, (.int .i64 a2)].toArray w0 fun e w' => ∃ v, e = .returned v ∧ Res w0 rr v w' := by
  refine calls_of_W Try.func35 rfl rfl ?_
  have hC0 := Ctx.start w0
  unfold Q.szFactS at hF
  refine W_seq_reg ?_
  refine WL_assign rfl rfl ?_
  refine WL_nil ?_
  refine W_seq_reg ?_
  refine WL_move rfl rfl ?_
  refine WL_move rfl rfl ?_
  refine WL_len Try.underlying49 g1 rfl rfl ?_
  refine WL_sub rfl rfl rfl ?_
  refine WL_assign rfl rfl ?_
  refine WL_nil ?_
  refine W_seq ?_
  refine W_seq_reg ?_
  refine WL_move rfl rfl ?_
  refine WL_lss rfl rfl rfl ?_
  refine WL_nil ?_
  refine W_cond rfl (fun hc1 => ?_) (fun hc1 => ?_)
  · replace hF := ite_t hF hc1
    refine W_seq_reg ?_
    refine WL_assign rfl rfl ?_
    refine WL_nil ?_
    refine W_ret ?_
    refine nrm_ret ?_
    have hq1 := Option.some.inj hF
    subst hq1
    refine fn_ret1 rfl rfl ?_
    exact ⟨_, rfl, int_res hC0 _⟩
  · replace hF := ite_f hF hc1
    refine W_skip ?_
    refine nrm_normal ?_
    refine W_seq ?_
    refine W_seq_reg ?_
    refine WL_assign rfl rfl ?_
    refine WL_nil ?_
    obtain ⟨r1, hr1, hF⟩ := bind_some hF
    refine W_norm (fun l w => ∃ x3 : Int, .inl x3 = r1 ∧ l = [(1, (.int .i64 x3))] ∧ Below w0.heap.size w0 w ∧ Ctx [] w0 w []) ?_ ?_
    · refine W_block ?_
      refine W.sub (l' := [(0, u1), (1, (.int .i64 (w64 (a2 - (List.length a1 : Int))))), (5, (.int .i64 0))]) ?_ ⟨rfl, rfl, rfl, trivial⟩
      refine W_loop (fun k l w => ∃ x1 : Int, ∃ x2 : Int, l = [(0, u1), (1, (.int .i64 x1)), (5, (.int .i64 x2))] ∧ Below w0.heap.size w0 w ∧ Ctx [] w0 w [] ∧ Q.szFactS_l1 a1 k x1 x2 = some r1) FUEL ⟨w64 (a2 - (List.length a1 : Int)), 0, rfl, (Below.refl _ _), hC0, hr1⟩ ?_
      clear hr1
      rintro k1 _ w1 ⟨x1, x2, rfl, hB1, hC1, hL1⟩
      cases k1 with
      | zero => rw [Q.szFactS_l1] at hL1; cases hL1
      | succ k1 =>
        rw [Q.szFactS_l1] at hL1
        refine W_seq ?_
        refine W_seq_reg ?_
        refine WL_move rfl rfl ?_
        refine WL_move rfl rfl ?_
        refine WL_len Try.underlying49 g1 rfl rfl ?_
        refine WL_lss rfl rfl rfl ?_
        refine WL_nil ?_
        refine W_cond rfl (fun hc2 => ?_) (fun hc2 => ?_)
        · replace hL1 := ite_t hL1 hc2
          refine W_skip ?_
          refine nrm_normal ?_
          refine W_seq ?_
          refine W_block ?_
          refine W_seq_reg ?_
          refine WL_move rfl rfl ?_
          refine WL_move rfl rfl ?_
          obtain ⟨x4, hx1, hL1⟩ := bind_some hL1
          refine WL_index Try.underlying49 ty106 g1 hx1 rfl rfl rfl (fun b1 o1 h1 => ?_)
          refine WL_load ty106 h1 hC1.keep rfl rfl (fun v1 h2 => ?_)
          obtain ⟨v2, rfl, h3⟩ := ro_st106 h2
          refine WL_move rfl rfl ?_
          obtain ⟨x5, hr2, hL1⟩ := bind_some hL1
          refine WL_call Try.call87 rfl rfl (c_Q_szFact x4 v2 (h3.now hC1.keep) x1 x5 hr2) ?_
          intro _ w2 hv1
          obtain ⟨rfl, hB2⟩ := res_int hv1
          have hC2 := hC1.grow hB2
          refine WL_assign rfl rfl ?_
          refine WL_nil ?_
          refine W_seq_reg ?_
          refine WL_move rfl rfl ?_
          refine WL_lss rfl rfl rfl ?_
          refine WL_nil ?_
          refine W_cond rfl (fun hc3 => ?_) (fun hc3 => ?_)
          · replace hL1 := ite_t hL1 hc3
            refine W_seq_reg ?_
            refine WL_assign rfl rfl ?_
            refine WL_nil ?_
            refine W_ret ?_
            refine blk_ret ?_
            refine nrm_ret ?_
            refine nrm_ret ?_
            refine blk_ret ?_
            refine nrm_ret ?_
            refine nrm_ret ?_
            have hq2 := Option.some.inj hL1
            subst hq2
            dsimp only at hF
            have hq3 := Option.some.inj hF
            subst hq3
            refine fn_ret1 rfl rfl ?_
            exact ⟨_, rfl, int_res hC2 _⟩
          · replace hL1 := ite_f hL1 hc3
            refine W_skip ?_
            refine blk_normal ?_
            refine nrm_normal ?_
            refine W_reg ?_
            refine WL_move rfl rfl ?_
            refine WL_add rfl rfl rfl ?_
            refine WL_assign rfl rfl ?_
            refine WL_nil ?_
            refine nrm_sub (l' := [(0, u1), (1, (.int .i64 x5)), (5, (.int .i64 (w64 (x2 + 1))))]) ⟨rfl, rfl, rfl, trivial⟩ ?_
            exact ⟨k1, Nat.lt_succ_self _, x5, w64 (x2 + 1), rfl, ((Keep.of hB1).then hB2).below, hC2, hL1⟩
        · replace hL1 := ite_f hL1 hc2
          refine W_exit ?_
          refine nrm_exit ?_
          refine nrm_exit ?_
          refine blk_exit ?_
          have hq4 := Option.some.inj hL1
          subst hq4
          refine nrm_sub (l' := [(1, (.int .i64 x1))]) ⟨rfl, trivial⟩ ?_
          exact ⟨x1, rfl, rfl, (Keep.of hB1).below, hC1⟩
    · rintro l2 _ w3 hs2 ⟨x3, rfl, rfl, hB3, hC3⟩
      try dsimp only at hF
      refine nrm_sub' hs2 ?_
      clear hs2
      refine W_seq_reg ?_
      refine WL_move rfl rfl ?_
      refine WL_assign rfl rfl ?_
      refine WL_nil ?_
      refine W_ret ?_
      have hq5 := Option.some.inj hF
      subst hq5
      refine fn_ret1 rfl rfl ?_
      exact ⟨_, rfl, int_res hC3 _⟩

theorem c_S_l2One {w0 : World} (a1 : Int) (a2 : (List Int)) (u1 : Value) (g1 : RO [] w0 u1 a2) (rr : (Int × (List Int))) (hF : S.l2One a1 a2 = some rr) :
    Calls Try.prog 116 [(.int .i64 a1), u1].toArray w0 fun e w' => ∃ v, e = .returned v ∧ Res w0 rr v w' := by
  refine calls_of_W Try.func116 rfl rfl ?_
  have hC0 := Ctx.start w0
  unfold S.l2One at hF
  refine W_seq_reg ?_
  refine WL_alloc hC0 zero108 rfl rfl (fun b1 w1 hC1 hB1 => ?_)
  refine WL_nil ?_
  refine W_seq_reg ?_
  refine WL_move rfl rfl ?_
  refine WL_buildSlice (vs := []) hC1 Try.underlying27 ty3 rfl rfl rfl rfl (by simp) rfl rfl (fun b2 w2 hC2 hB2 => ?_)
  have hC3 := hC2.row0 (α := Int)
  have hC4 := hC3.front 1 rfl
  dsimp only [List.eraseIdx] at hC4
  have hC5 : Ctx [] w0 w2 (Item.own (.slice (some ⟨b2, 0, none⟩) 0 0) (([] : List Int) : List Int) :: [Item.box b1 [(.int .i64 0), (.slice none 0 0)]]) := hC4.rowOwn (by simp [maxLen])
  refine WL_move rfl rfl ?_
  obtain ⟨x1, hx1, hF⟩ := bind_some hF
  refine WL_append_flat (α := Int) hC5 0 rfl g1 hC5.keep Try.underlying27 ty3 rfl hx1 rfl rfl rfl (fun v1 w3 hC6 => ?_)
  try dsimp only [List.set] at hC6
  refine WL_build (vs := [(0, (.int .i64 a1)), (1, v1)]) rfl rfl rfl (built108_0_1 rfl (ro_cells (hC6.ro 0 rfl))) ?_
  refine WL_store_box_agg (cs' := [(.int .i64 a1), v1]) (new := [(.int .i64 a1), v1]) hC6 1 rfl rfl (by intro v hv; simp only [List.mem_cons, List.not_mem_nil, or_false] at hv; rcases hv with rfl | rfl; exact rfl; exact (ro_one (hC6.ro 0 rfl))) rfl Try.sizeOf108 rfl rfl (fun w4 hC7 => ?_)
  try dsimp only [List.set] at hC7
  refine WL_nil ?_
  refine W_ret ?_
  have hq1 := Option.some.inj hF
  subst hq1
  refine fn_retG1 rfl (rv_cell_agg (cs' := [(.int .i64 a1), v1]) hC7 (i := 1) rfl rfl rfl Try.isAgg108 Try.sizeOf108 rfl) ?_
  have hC8 := own_st108 a1 v1 x1 hC7
  exact ⟨_, rfl, own_res hC8 0 rfl⟩

theorem c_S_l2Copy {w0 : World} (a1 : (List (Int × (List Int)))) (u1 : Value) (g1 : RO [] w0 u1 a1) (rr : (List (Int × (List Int)))) (hF : S.l2Copy a1 = some rr) :
    Calls Try.prog 88 [u1].toArray w0 fun e w' => ∃ v, e = .returned v ∧ Res w0 rr v w' := by
  refine calls_of_W Try.func88 rfl rfl ?_
  have hC0 := Ctx.start w0
  unfold S.l2Copy at hF
  refine W_seq_reg ?_
  refine WL_assign rfl rfl ?_
  refine WL_nil ?_
  refine W_seq_reg ?_
  refine WL_buildSlice (vs := []) hC0 Try.underlying51 ty108 rfl rfl rfl rfl (by simp) rfl rfl (fun b1 w1 hC1 hB1 => ?_)
  have hC2 := hC1.row0 (α := (Int × (List Int)))
  have hC3 := hC2.front 1 rfl
  dsimp only [List.eraseIdx] at hC3
  have hC4 : Ctx [] w0 w1 (Item.own (.slice (some ⟨b1, 0, none⟩) 0 0) (([] : List (Int × (List Int))) : List (Int × (List Int))) :: []) := hC3.rowOwn (by simp [maxLen])
  refine WL_assign rfl rfl ?_
  refine WL_nil ?_
  refine W_seq ?_
  refine W_seq_reg ?_
  refine WL_assign rfl rfl ?_
  refine WL_nil ?_
  obtain ⟨r1, hr1, hF⟩ := bind_some hF
  refine W_norm (fun l w => ∃ v2 : Value, ∃ x3 : (List (Int × (List Int))), x3 = r1 ∧ l = [(3, v2)] ∧ Ctx [] w0 w [Item.own v2 (x3 : (List (Int × (List Int))))]) ?_ ?_
  · refine W_block ?_
    refine W.sub (l' := [(0, u1), (3, (.slice (some ⟨b1, 0, none⟩) 0 0)), (4, (.int .i64 0))]) ?_ ⟨rfl, rfl, rfl, trivial⟩
    refine W_loop (fun k l w => ∃ v1 : Value, ∃ x1 : (List (Int × (List Int))), ∃ x2 : Int, l = [(0, u1), (3, v1), (4, (.int .i64 x2))] ∧ Ctx [] w0 w [Item.own v1 (x1 : (List (Int × (List Int))))] ∧ S.l2Copy_l1 a1 k x1 x2 = some r1) FUEL ⟨(.slice (some ⟨b1, 0, none⟩) 0 0), ([] : List (Int × (List Int))), 0, rfl, hC4, hr1⟩ ?_
    clear hr1
    rintro k1 _ w2 ⟨v1, x1, x2, rfl, hC5, hL1⟩
    cases k1 with
    | zero => rw [S.l2Copy_l1] at hL1; cases hL1
    | succ k1 =>
      rw [S.l2Copy_l1] at hL1
      refine W_seq ?_
      refine W_seq_reg ?_
      refine WL_move rfl rfl ?_
      refine WL_move rfl rfl ?_
      refine WL_len Try.underlying51 g1 rfl rfl ?_
      refine WL_lss rfl rfl rfl ?_
      refine WL_nil ?_
      refine W_cond rfl (fun hc1 => ?_) (fun hc1 => ?_)
      · replace hL1 := ite_t hL1 hc1
        refine W_skip ?_
        refine nrm_normal ?_
        refine W_seq ?_
        refine W_block ?_
        refine W_drawn 15 rfl hmix (fun w3 hB3 => ?_)
        have hC6 := hC5.grow hB3
        refine WA_take 0 rfl (by kernel_rfl) (by kernel_rfl) (by kernel_rfl) rfl (fl_move rfl) ?_
        refine WL_move rfl rfl ?_
        refine WL_nil ?_
        refine WA_take 1 rfl (by kernel_rfl) (by kernel_rfl) (by kernel_rfl) rfl (fl_move rfl) ?_
        refine WL_move rfl rfl ?_
        refine WL_nil ?_
        refine WA_take 2 rfl (by kernel_rfl) (by kernel_rfl) (by kernel_rfl) rfl (fl_move rfl) ?_
        refine WL_move rfl rfl ?_
        refine WL_nil ?_
        obtain ⟨x4, hx1, hL1⟩ := bind_some hL1
        refine WA_take 3 rfl (by kernel_rfl) (by kernel_rfl) (by kernel_rfl) rfl (fl_index Try.underlying51 ty108 g1 hx1 rfl rfl) ?_
        refine WL_index Try.underlying51 ty108 g1 hx1 rfl rfl rfl (fun b2 o1 h1 => ?_)
        refine WL_nil ?_
        refine WA_take 4 rfl (by kernel_rfl) (by kernel_rfl) (by kernel_rfl) rfl (fl_field Try.underlying108 rfl rfl (fun w => ⟨_, Try.sizeOf3 w⟩) rfl) ?_
        refine WL_field Try.underlying108 rfl rfl (fun w => ⟨_, Try.sizeOf3 w⟩) rfl rfl ?_
        refine WL_nil ?_
        refine WA_take 6 rfl (by kernel_rfl) (by kernel_rfl) (by kernel_rfl) rfl (fl_move rfl) ?_
        refine WL_move rfl rfl ?_
        refine WL_nil ?_
        refine WA_take 7 rfl (by kernel_rfl) (by kernel_rfl) (by kernel_rfl) rfl (fl_move rfl) ?_
        refine WL_move rfl rfl ?_
        refine WL_nil ?_
        obtain ⟨x5, hx2, hL1⟩ := bind_some hL1
        refine WA_take 8 rfl (by kernel_rfl) (by kernel_rfl) (by kernel_rfl) rfl (fl_index Try.underlying51 ty108 g1 hx2 rfl rfl) ?_
        refine WL_index Try.underlying51 ty108 g1 hx2 rfl rfl rfl (fun b3 o2 h2 => ?_)
        refine WL_nil ?_
        refine WA_take 9 rfl (by kernel_rfl) (by kernel_rfl) (by kernel_rfl) rfl (fl_field Try.underlying108 rfl rfl (fun w => ⟨_, Try.sizeOf27 w⟩) rfl) ?_
        refine WL_field Try.underlying108 rfl rfl (fun w => ⟨_, Try.sizeOf27 w⟩) rfl rfl ?_
        refine WL_nil ?_
        refine WA.sub (l' := [(0, u1), (3, v1), (4, (.int .i64 x2)), (6, (.int .i64 x2)), (7, u1), (8, (.int .i64 (List.length a1 : Int))), (9, (.bool (decide (x2 < (List.length a1 : Int))))), (12, v1), (13, u1), (14, (.int .i64 x2)), (15, (ptr b2 o1)), (16, (ptr b2 (o1 + 0))), (18, u1), (19, (.int .i64 x2)), (20, (ptr b3 o2)), (21, (ptr b3 (o2 + 1)))]) ?_ ⟨rfl, rfl, rfl, rfl, rfl, rfl, rfl, rfl, rfl, rfl, rfl, rfl, rfl, rfl, rfl, rfl, trivial⟩
        refine WA_postsE [⟨5, [], fun vs => PW.val (.int .i64 x4.1), []⟩, ⟨10, [], fun vs => PW.ro [] w0 x5.2, []⟩] [[], []] 4 rfl (by kernel_rfl) (by kernel_rfl) rfl ?_ ?_
        · refine StepsE_cons rfl ?_ ?_
          · intro w4 hB4
            refine DepsE_nil ?_
            refine ⟨_, rfl, ?_⟩
            refine WL_load ty3 h1.fst (hC6.keep.then hB4) rfl rfl (fun v3 h3 => ?_)
            obtain rfl := ro_int h3
            refine WL_nil ?_
            exact FinE_val (Below.refl _ _) rfl rfl ⟨rfl, rfl⟩
          refine StepsE_cons rfl ?_ ?_
          · intro w4 hB4
            refine DepsE_nil ?_
            refine ⟨_, rfl, ?_⟩
            refine WL_load ty27 h2.snd (hC6.keep.then hB4) rfl rfl (fun v4 h4 => ?_)
            refine WL_nil ?_
            exact FinE_val (Below.refl _ _) rfl rfl ⟨rfl, h4⟩
          exact StepsE_nil
        · intro w5 hB5
          refine AllE_cons rfl rfl rfl ?_
          rintro _ _ ⟨rfl, rfl⟩
          refine AllE_cons rfl rfl rfl ?_
          rintro v4 _ ⟨rfl, h4⟩
          refine AllE_nil ?_
          intro hn1 hb1
          have hC7 := hC6.grow hB5
          obtain ⟨x6, hr2, hL1⟩ := bind_some hL1
          refine WA_one 11 (by kernel_rfl) rfl ?_
          refine WL_call Try.call116 rfl rfl (c_S_l2One x4.1 x5.2 v4 (h4.now hC7.keep) x6 hr2) ?_
          rintro v5 w6 ⟨hB6, F1, hv1, hn2, hb2⟩
          have hC8 := hC7.push hB6 (A := Item.own v5 x6) hv1 hn2 hb2
          obtain ⟨v6, rfl, hC9⟩ := st108_own hC8
          refine WL_nil ?_
          refine WA_one 12 (by kernel_rfl) rfl ?_
          refine WL_buildSlice (vs := [(.agg #[(.int .i64 x6.1), v6])]) hC9 Try.underlying51 ty108 rfl rfl rfl rfl (by intro v hv; simp only [List.mem_cons, List.not_mem_nil, or_false] at hv; rcases hv with rfl <;> rfl) rfl rfl (fun b4 w7 hC10 hB7 => ?_)
          have hC11 := hC10.row0 (α := (Int × (List Int)))
          have hC13 := hC11.front 2 rfl
          dsimp only [List.eraseIdx] at hC13
          have hC12 := own_st108 x6.1 v6 x6.2 hC13
          have hC14 := hC12.row1
          have hC15 := hC14.front 1 rfl
          dsimp only [List.eraseIdx] at hC15
          have hC16 : Ctx [] w0 w7 (Item.own (.slice (some ⟨b4, 0, none⟩) 1 1) ([(x6.1, x6.2)] : List (Int × (List Int))) :: [Item.own v1 (x1 : (List (Int × (List Int))))]) := hC15.rowOwn (by simp [maxLen])
          refine WL_nil ?_
          obtain ⟨x7, hx3, hL1⟩ := bind_some hL1
          refine WA_one 13 (by kernel_rfl) rfl ?_
          refine WL_append_head hC16 0 rfl Try.underlying51 ty108 rfl hx3 rfl rfl rfl (fun v7 w8 hC17 => ?_)
          try dsimp only [List.set] at hC17
          refine WL_nil ?_
          refine WA_take 14 rfl (by kernel_rfl) (by kernel_rfl) (by kernel_rfl) rfl (fl_assign rfl) ?_
          refine WL_assign rfl rfl ?_
          refine WL_nil ?_
          refine WA_done (by kernel_rfl) ?_
          refine blk_normal ?_
          refine nrm_normal ?_
          refine W_reg ?_
          refine WL_move rfl rfl ?_
          refine WL_add rfl rfl rfl ?_
          refine WL_assign rfl rfl ?_
          refine WL_nil ?_
          refine nrm_sub (l' := [(0, u1), (3, v7), (4, (.int .i64 (w64 (x2 + 1))))]) ⟨rfl, rfl, rfl, trivial⟩ ?_
          exact ⟨k1, Nat.lt_succ_self _, v7, x7, w64 (x2 + 1), rfl, hC17, hL1⟩
      · replace hL1 := ite_f hL1 hc1
        refine W_exit ?_
        refine nrm_exit ?_
        refine nrm_exit ?_
        refine blk_exit ?_
        have hq1 := Option.some.inj hL1
        subst hq1
        refine nrm_sub (l' := [(3, v1)]) ⟨rfl, trivial⟩ ?_
        exact ⟨v1, x1, rfl, rfl, hC5⟩
  · rintro l2 _ w9 hs2 ⟨v2, x3, rfl, rfl, hC19⟩
    try dsimp only at hF
    refine nrm_sub' hs2 ?_
    clear hs2
    refine W_seq_reg ?_
    refine WL_move rfl rfl ?_
    refine WL_assign rfl rfl ?_
    refine WL_nil ?_
    refine W_ret ?_
    have hq2 := Option.some.inj hF
    subst hq2
    refine fn_ret1 rfl rfl ?_
    exact ⟨_, rfl, own_res hC19 0 rfl⟩

theorem c_S_PageAt {w0 : World} (a1 : (List (Int × (List Int)))) (u1 : Value) (g1 : RO [] w0 u1 a1) (a2 : Int) (a3 : Int) (rr : ((List (Int × (List Int))) × Int × Bool)) (hF : S.PageAt a1 a2 a3 = some rr) :
    Calls Try.prog 36 [u1, (.int .i64 a2), (.int .i64 a3)].toArray w0 fun e w' => ∃ v, e = .returned v ∧ Res3 w0 rr.1 rr.2.1 rr.2.2 v w' := by
  refine calls_of_W Try.func36 rfl rfl ?_
  have hC0 := Ctx.start w0
  unfold S.PageAt at hF
  refine W_seq_reg ?_
  refine WL_assign rfl rfl ?_
  refine WL_assign rfl rfl ?_
  refine WL_assign rfl rfl ?_
  refine WL_nil ?_
  refine W_seq ?_
  obtain ⟨r1, hr1, hF⟩ := bind_some hF
  refine W_cut (fun l w => ∃ x1 : Bool, x1 = r1 ∧ l = [(0, u1), (1, (.int .i64 a2)), (2, (.int .i64 a3)), (19, (.bool x1))] ∧ Below w0.heap.size w0 w ∧ Ctx [] w0 w []) ?_ ?_
  · refine W_reg ?_
    refine WL_move rfl rfl ?_
    obtain ⟨x2, hr2, hr1⟩ := bind_some hr1
    refine WL_call Try.call79 rfl rfl (c_S_l1In a3 1 9 x2 hr2) ?_
    intro _ w2 hv1
    obtain ⟨rfl, hB2⟩ := res_bool hv1
    have hC2 := hC0.grow hB2
    refine WL_not rfl rfl ?_
    refine WL_move rfl rfl ?_
    refine WL_fork (fun hc1 => ?_) (fun hc1 => ?_)
    · replace hr1 := ite_t hr1 hc1
      refine WL_guard_skip rfl rfl (by simp) rfl ?_
      refine WL_guard_skip rfl rfl (by simp) rfl ?_
      refine WL_guard_skip rfl rfl (by simp) rfl ?_
      refine WL_guard_skip rfl rfl (by simp) rfl ?_
      refine WL_guard_skip rfl rfl (by simp) rfl ?_
      refine WL_pick_t rfl rfl rfl ?_
      refine WL_nil ?_
      have hq1 := Option.some.inj hr1
      subst hq1
      refine nrm_sub (l' := [(0, u1), (1, (.int .i64 a2)), (2, (.int .i64 a3)), (19, (.bool true))]) ⟨rfl, rfl, rfl, rfl, trivial⟩ ?_
      exact ⟨true, rfl, rfl, (Keep.of hB2).below, hC2⟩
    · replace hr1 := ite_f hr1 hc1
      refine WL_guard rfl rfl ?_
      refine WL_move rfl rfl ?_
      refine WL_guard rfl rfl ?_
      refine WL_move rfl rfl ?_
      refine WL_guard rfl rfl ?_
      refine WL_len Try.underlying51 g1 rfl rfl ?_
      obtain ⟨x3, hr3, hr1⟩ := bind_some hr1
      refine WL_guard rfl rfl ?_
      refine WL_call Try.call79 rfl rfl (c_S_l1In a2 0 (List.length a1 : Int) x3 hr3) ?_
      intro _ w3 hv2
      obtain ⟨rfl, hB3⟩ := res_bool hv2
      have hC3 := hC2.grow hB3
      refine WL_guard rfl rfl ?_
      refine WL_not rfl rfl ?_
      refine WL_pick_f rfl rfl rfl ?_
      refine WL_nil ?_
      have hq2 := Option.some.inj hr1
      subst hq2
      refine nrm_sub (l' := [(0, u1), (1, (.int .i64 a2)), (2, (.int .i64 a3)), (19, (.bool (!x3)))]) ⟨rfl, rfl, rfl, rfl, trivial⟩ ?_
      exact ⟨(!x3), rfl, rfl, ((Keep.of hB2).then hB3).below, hC3⟩
  · rintro _ w1 ⟨x1, rfl, rfl, hB1, hC1⟩
    try dsimp only at hF
    refine W_cond rfl (fun hc2 => ?_) (fun hc2 => ?_)
    · replace hF := ite_t hF hc2
      refine W_seq_reg ?_
      refine WL_buildSlice (vs := []) hC1 Try.underlying51 ty108 rfl rfl rfl rfl (by simp) rfl rfl (fun b1 w4 hC4 hB4 => ?_)
      have hC5 := hC4.row0 (α := (Int × (List Int)))
      have hC6 := hC5.front 1 rfl
      dsimp only [List.eraseIdx] at hC6
      have hC7 : Ctx [] w0 w4 (Item.own (.slice (some ⟨b1, 0, none⟩) 0 0) (([] : List (Int × (List Int))) : List (Int × (List Int))) :: []) := hC6.rowOwn (by simp [maxLen])
      refine WL_assign rfl rfl ?_
      refine WL_assign rfl rfl ?_
      refine WL_assign rfl rfl ?_
      refine WL_nil ?_
      refine W_ret ?_
      refine nrm_ret ?_
      have hq3 := Option.some.inj hF
      subst hq3
      refine fn_ret3 rfl rfl rfl rfl ?_
      have hC8 := hC7.triv (bool_val (false))
      have hC9 := hC8.triv (int_val (0))
      have hC10 : Ctx [] w0 _ [Item.own (.slice (some ⟨b1, 0, none⟩) 0 0) (([] : List (Int × (List Int))) : (List (Int × (List Int)))), Item.own (.int .i64 0) (0 : Int), Item.own (.bool false) (false : Bool)] := hC9.front 2 rfl
      exact ⟨_, rfl, res3_of hC10⟩
    · replace hF := ite_f hF hc2
      refine W_skip ?_
      refine nrm_normal ?_
      refine W_seq_reg ?_
      refine WL_move rfl rfl ?_
      refine WL_len Try.underlying51 g1 rfl rfl ?_
      refine WL_move rfl rfl ?_
      refine WL_move rfl rfl ?_
      refine WL_add rfl rfl rfl ?_
      refine WL_min rfl rfl rfl ?_
      refine WL_assign rfl rfl ?_
      refine WL_nil ?_
      refine W_seq_reg ?_
      refine WL_move rfl rfl ?_
      refine WL_move rfl rfl ?_
      refine WL_move rfl rfl ?_
      obtain ⟨x4, hx1, hF⟩ := bind_some hF
      refine WL_slice_lh Try.underlying51 ty108 g1 hx1 rfl rfl rfl rfl (fun v1 h1 => ?_)
      obtain ⟨x5, hr4, hF⟩ := bind_some hF
      refine WL_call Try.call88 rfl rfl (c_S_l2Copy x4 v1 (h1.now hC1.keep) x5 hr4) ?_
      rintro v2 w5 ⟨hB5, F1, hv3, hn1, hb1⟩
      have hC11 := hC1.push hB5 (A := Item.own v2 x5) hv3 hn1 hb1
      refine WL_move rfl rfl ?_
      refine WL_assign rfl rfl ?_
      refine WL_assign rfl rfl ?_
      refine WL_assign rfl rfl ?_
      refine WL_nil ?_
      refine W_ret ?_
      have hq4 := Option.some.inj hF
      subst hq4
      refine fn_ret3 rfl rfl rfl rfl ?_
      have hC12 := hC11.triv (bool_val (true))
      have hC13 := hC12.triv (int_val (if (w64 (a2 + a3)) < (List.length a1 : Int) then w64 (a2 + a3) else (List.length a1 : Int)))
      have hC14 : Ctx [] w0 _ [Item.own v2 (x5 : (List (Int × (List Int)))), Item.own (.int .i64 (if (w64 (a2 + a3)) < (List.length a1 : Int) then w64 (a2 + a3) else (List.length a1 : Int))) (if (w64 (a2 + a3)) < (List.length a1 : Int) then w64 (a2 + a3) else (List.length a1 : Int) : Int), Item.own (.bool true) (true : Bool)] := hC13.front 2 rfl
      exact ⟨_, rfl, res3_of hC14⟩

theorem c_Q_toFact {w0 : World} (a1 : (Int × (List Int))) (u1 : Value) (g1 : RO [] w0 u1 a1.2) (rr : (Int × (List Int))) (hF : Q.toFact a1 = some rr) :
    Calls Try.prog 89 [(.agg #[(.int .i64 a1.1), u1])].toArray w0 fun e w' => ∃ v, e = .returned v ∧ Res w0 rr v w' := by
  refine calls_of_W Try.func89 rfl rfl ?_
  have hC0 := Ctx.start w0
  unfold Q.toFact at hF
  refine W_seq_reg ?_
  refine WL_box (cs := [(.int .i64 a1.1), u1]) hC0 rfl rfl rfl (fun b1 w1 hC1 hB1 => ?_)
  refine WL_alloc hC1 zero108 rfl rfl (fun b2 w2 hC2 hB2 => ?_)
  refine WL_nil ?_
  refine W_seq_reg ?_
  refine WL_alloc hC2 zero108 rfl rfl (fun b3 w3 hC3 hB3 => ?_)
  refine WL_nil ?_
  refine W_seq_reg ?_
  refine WL_field Try.underlying106 rfl rfl (fun w => ⟨_, Try.sizeOf3 w⟩) rfl rfl ?_
  refine WL_load_box hC3 2 rfl rfl Try.isAgg3 rfl rfl ?_
  refine WL_field Try.underlying108 rfl rfl (fun w => ⟨_, Try.sizeOf3 w⟩) rfl rfl ?_
  refine WL_store_box (cs' := [(.int .i64 a1.1), (.slice none 0 0)]) hC3 0 rfl rfl rfl rfl Try.sizeOf3 rfl rfl (fun w4 hC4 => ?_)
  try dsimp only [List.set] at hC4
  refine WL_nil ?_
  refine W_seq_reg ?_
  refine WL_field Try.underlying106 rfl rfl (fun w => ⟨_, Try.sizeOf27 w⟩) rfl rfl ?_
  refine WL_load_box hC4 2 rfl rfl Try.isAgg27 rfl rfl ?_
  obtain ⟨x1, hr1, hF⟩ := bind_some hF
  refine WL_call Try.call27 rfl rfl (c_Q_toIntS a1.2 u1 (g1.now hC4.keep) x1 hr1) ?_
  rintro v1 w5 ⟨hB4, F1, hv1, hn1, hb1⟩
  have hC5 := hC4.push hB4 (A := Item.own v1 x1) hv1 hn1 hb1
  refine WL_field Try.underlying108 rfl rfl (fun w => ⟨_, Try.sizeOf27 w⟩) rfl rfl ?_
  refine WL_store_box (cs' := [(.int .i64 a1.1), v1]) hC5 1 rfl rfl (ro_one (hC5.ro 0 rfl)) rfl Try.sizeOf27 rfl rfl (fun w6 hC6 => ?_)
  try dsimp only [List.set] at hC6
  refine WL_nil ?_
  refine W_seq_reg ?_
  refine WL_load_box_agg [(.int .i64 a1.1), v1] hC6 1 rfl rfl rfl Try.isAgg108 Try.sizeOf108 rfl rfl ?_
  refine WL_store_box_agg (cs' := [(.int .i64 a1.1), v1]) (new := [(.int .i64 a1.1), v1]) hC6 2 rfl rfl (by intro v hv; simp only [List.mem_cons, List.not_mem_nil, or_false] at hv; rcases hv with rfl | rfl; exact rfl; exact (ro_one (hC6.ro 0 rfl))) rfl Try.sizeOf108 rfl rfl (fun w7 hC7 => ?_)
  try dsimp only [List.set] at hC7
  refine WL_nil ?_
  refine W_ret ?_
  have hq1 := Option.some.inj hF
  subst hq1
  refine fn_retG1 rfl (rv_cell_agg (cs' := [(.int .i64 a1.1), v1]) hC7 (i := 2) rfl rfl rfl Try.isAgg108 Try.sizeOf108 rfl) ?_
  have hC8 := own_st108 a1.1 v1 x1 hC7
  exact ⟨_, rfl, own_res hC8 0 rfl⟩

theorem c_Q_toFactS {w0 : World} (a1 : (List (Int × (List Int)))) (u1 : Value) (g1 : RO [] w0 u1 a1) (rr : (List (Int × (List Int)))) (hF : Q.toFactS a1 = some rr) :
    Calls Try.prog 37 [u1].toArray w0 fun e w' => ∃ v, e = .returned v ∧ Res w0 rr v w' := by
  refine calls_of_W Try.func37 rfl rfl ?_
  have hC0 := Ctx.start w0
  unfold Q.toFactS at hF
  refine W_seq_reg ?_
  refine WL_assign rfl rfl ?_
  refine WL_nil ?_
  refine W_seq_reg ?_
  refine WL_move rfl rfl ?_
  refine WL_len Try.underlying49 g1 rfl rfl ?_
  obtain ⟨x1, hx1, hF⟩ := bind_some hF
  refine WL_makeSlice hC0 Try.underlying51 ty108 rfl zc108 zr108 hx1 rfl rfl rfl (fun b1 w1 hC1 hB1 => ?_)
  refine WL_assign rfl rfl ?_
  refine WL_nil ?_
  refine W_seq ?_
  refine W_seq_reg ?_
  refine WL_assign rfl rfl ?_
  refine WL_nil ?_
  obtain ⟨r1, hr1, hF⟩ := bind_some hF
  refine W_norm (fun l w => ∃ x4 : (List (Int × (List Int))), x4 = r1 ∧ l = [(3, (.slice (some ⟨b1, 0, none⟩) (Int.toNat (List.length a1 : Int)) (Int.toNat (List.length a1 : Int))))] ∧ Ctx [] w0 w [Item.own (.slice (some ⟨b1, 0, none⟩) (Int.toNat (List.length a1 : Int)) (Int.toNat (List.length a1 : Int))) (x4 : (List (Int × (List Int))))]) ?_ ?_
  · refine W_block ?_
    refine W.sub (l' := [(0, u1), (3, (.slice (some ⟨b1, 0, none⟩) (Int.toNat (List.length a1 : Int)) (Int.toNat (List.length a1 : Int)))), (4, (.int .i64 0))]) ?_ ⟨rfl, rfl, rfl, trivial⟩
    refine W_loop (fun k l w => ∃ x2 : (List (Int × (List Int))), ∃ x3 : Int, l = [(0, u1), (3, (.slice (some ⟨b1, 0, none⟩) (Int.toNat (List.length a1 : Int)) (Int.toNat (List.length a1 : Int)))), (4, (.int .i64 x3))] ∧ Ctx [] w0 w [Item.own (.slice (some ⟨b1, 0, none⟩) (Int.toNat (List.length a1 : Int)) (Int.toNat (List.length a1 : Int))) (x2 : (List (Int × (List Int))))] ∧ Q.toFactS_l1 a1 k x2 x3 = some r1) FUEL ⟨x1, 0, rfl, hC1, hr1⟩ ?_
    clear hr1
    rintro k1 _ w2 ⟨x2, x3, rfl, hC2, hL1⟩
    cases k1 with
    | zero => rw [Q.toFactS_l1] at hL1; cases hL1
    | succ k1 =>
      rw [Q.toFactS_l1] at hL1
      refine W_seq ?_
      refine W_seq_reg ?_
      refine WL_move rfl rfl ?_
      refine WL_move rfl rfl ?_
      refine WL_len Try.underlying49 g1 rfl rfl ?_
      refine WL_lss rfl rfl rfl ?_
      refine WL_nil ?_
      refine W_cond rfl (fun hc1 => ?_) (fun hc1 => ?_)
      · replace hL1 := ite_t hL1 hc1
        refine W_skip ?_
        refine nrm_normal ?_
        refine W_seq ?_
        refine W_block ?_
        refine W_reg ?_
        refine WL_move rfl rfl ?_
        refine WL_move rfl rfl ?_
        refine WL_move rfl rfl ?_
        refine WL_move rfl rfl ?_
        obtain ⟨x5, hx2, hL1⟩ := bind_some hL1
        refine WL_index Try.underlying49 ty106 g1 hx2 rfl rfl rfl (fun b2 o1 h1 => ?_)
        refine WL_load ty106 h1 hC2.keep rfl rfl (fun v1 h2 => ?_)
        obtain ⟨v2, rfl, h3⟩ := ro_st106 h2
        obtain ⟨x6, hr2, hL1⟩ := bind_some hL1
        refine WL_call Try.call89 rfl rfl (c_Q_toFact x5 v2 (h3.now hC2.keep) x6 hr2) ?_
        rintro v3 w3 ⟨hB3, F1, hv1, hn1, hb1⟩
        have hC3 := hC2.push hB3 (A := Item.own v3 x6) hv1 hn1 hb1
        obtain ⟨v4, rfl, hC4⟩ := st108_own hC3
        obtain ⟨x7, hx3, hL1⟩ := bind_some hL1
        refine WL_index_own hC4 1 rfl Try.underlying51 ty108 hx3 rfl rfl rfl (fun b3 hE1 => ?_)
        have hC6 := own_st108 x6.1 v4 x6.2 hC4
        refine WL_store_elem hC6 0 rfl ty108 hE1 hx3 rfl rfl rfl (fun w4 hC5 => ?_)
        try dsimp only [List.set] at hC5
        refine WL_nil ?_
        refine blk_normal ?_
        refine nrm_normal ?_
        refine W_reg ?_
        refine WL_move rfl rfl ?_
        refine WL_add rfl rfl rfl ?_
        refine WL_assign rfl rfl ?_
        refine WL_nil ?_
        refine nrm_sub (l' := [(0, u1), (3, (.slice (some ⟨b1, 0, none⟩) (Int.toNat (List.length a1 : Int)) (Int.toNat (List.length a1 : Int)))), (4, (.int .i64 (w64 (x3 + 1))))]) ⟨rfl, rfl, rfl, trivial⟩ ?_
        exact ⟨k1, Nat.lt_succ_self _, (List.set x2 (Int.toNat x3) (x6.1, x6.2)), w64 (x3 + 1), rfl, hC5, hL1⟩
      · replace hL1 := ite_f hL1 hc1
        refine W_exit ?_
        refine nrm_exit ?_
        refine nrm_exit ?_
        refine blk_exit ?_
        have hq1 := Option.some.inj hL1
        subst hq1
        refine nrm_sub (l' := [(3, (.slice (some ⟨b1, 0, none⟩) (Int.toNat (List.length a1 : Int)) (Int.toNat (List.length a1 : Int))))]) ⟨rfl, trivial⟩ ?_
        exact ⟨x2, rfl, rfl, hC2⟩
  · rintro l2 _ w5 hs2 ⟨x4, rfl, rfl, hC8⟩
    try dsimp only at hF
    refine nrm_sub' hs2 ?_
    clear hs2
    refine W_seq_reg ?_
    refine WL_move rfl rfl ?_
    refine WL_assign rfl rfl ?_
    refine WL_nil ?_
    refine W_ret ?_
    have hq2 := Option.some.inj hF
    subst hq2
    refine fn_ret1 rfl rfl ?_
    exact ⟨_, rfl, own_res hC8 0 rfl⟩

theorem c_M_isPage {w0 : World} (a1 : Int) (rr : Bool) (hF : M.isPage a1 = some rr) :
    Calls Try.prog 90 [(.int .i64 a1)].toArray w0 fun e w' => ∃ v, e = .returned v ∧ Res w0 rr v w' := by
  refine calls_of_W Try.func90 rfl rfl ?_
  have hC0 := Ctx.start w0
  unfold M.isPage at hF
  refine W_seq_reg ?_
  refine WL_assign rfl rfl ?_
  refine WL_nil ?_
  refine W_seq_reg ?_
  refine WL_move rfl rfl ?_
  obtain ⟨x1, hr1, hF⟩ := bind_some hF
  refine WL_call Try.call84 rfl rfl (c_M_within a1 1 9 x1 hr1) ?_
  intro _ w1 hv1
  obtain ⟨rfl, hB1⟩ := res_bool hv1
  have hC1 := hC0.grow hB1
  refine WL_assign rfl rfl ?_
  refine WL_nil ?_
  refine W_ret ?_
  have hq1 := Option.some.inj hF
  subst hq1
  refine fn_ret1 rfl rfl ?_
  exact ⟨_, rfl, bool_res hC1 _⟩

theorem c_Slices_Clone_Lint_int {w0 : World} (a1 : (List Int)) (u1 : Value) (g1 : RO [] w0 u1 a1) (rr : (List Int)) (hF : Slices.Clone_Lint_int a1 = some rr) :
    Calls Try.prog 123 [u1].toArray w0 fun e w' => ∃ v, e = .returned v ∧ Res w0 rr v w' := by
  refine calls_of_W Try.func123 rfl rfl ?_
  have hC0 := Ctx.start w0
  unfold Slices.Clone_Lint_int at hF
  refine W_seq_reg ?_
  refine WL_assign rfl rfl ?_
  refine WL_nil ?_
  refine W_seq ?_
  refine W_seq_reg ?_
  refine WL_move rfl rfl ?_
  refine WL_isnil Try.underlying27 g1 rfl rfl (fun bn1 hb1 => ?_)
  refine WL_nil ?_
  rcases btf bn1 with hc1 | hc1
  · have ha := hb1 hc1
    subst hc1
    subst ha
    replace hF : (some ([]) : Option (List Int)) = some rr := by simpa [app] using hF
    refine W_cond_t rfl ?_
    refine W_seq_reg ?_
    refine WL_assign rfl rfl ?_
    refine WL_nil ?_
    refine W_ret ?_
    refine nrm_ret ?_
    have hq1 := Option.some.inj hF
    subst hq1
    refine fn_ret1 rfl rfl ?_
    exact ⟨_, rfl, nil_res hC0⟩
  · subst hc1
    refine W_cond_f rfl ?_
    refine W_skip ?_
    refine nrm_normal ?_
    refine W_seq_reg ?_
    refine WL_buildSlice (vs := []) hC0 Try.underlying27 ty3 rfl rfl rfl rfl (by simp) rfl rfl (fun b1 w1 hC1 hB1 => ?_)
    have hC2 := hC1.row0 (α := Int)
    have hC3 := hC2.front 1 rfl
    dsimp only [List.eraseIdx] at hC3
    have hC4 : Ctx [] w0 w1 (Item.own (.slice (some ⟨b1, 0, none⟩) 0 0) (([] : List Int) : List Int) :: []) := hC3.rowOwn (by simp [maxLen])
    refine WL_move rfl rfl ?_
    obtain ⟨x1, hx1, hF⟩ := bind_some hF
    refine WL_append_flat (α := Int) hC4 0 rfl g1 hC4.keep Try.underlying27 ty3 rfl hx1 rfl rfl rfl (fun v1 w2 hC5 => ?_)
    try dsimp only [List.set] at hC5
    refine WL_assign rfl rfl ?_
    refine WL_nil ?_
    refine W_ret ?_
    have hq2 := Option.some.inj hF
    subst hq2
    refine fn_ret1 rfl rfl ?_
    exact ⟨_, rfl, own_res hC5 0 rfl⟩

theorem c_M_copyFact {w0 : World} (a1 : (Int × (List Int))) (u1 : Value) (g1 : RO [] w0 u1 a1.2) (rr : (Int × (List Int))) (hF : M.copyFact a1 = some rr) :
    Calls Try.prog 117 [(.agg #[(.int .i64 a1.1), u1])].toArray w0 fun e w' => ∃ v, e = .returned v ∧ Res w0 rr v w' := by
  refine calls_of_W Try.func117 rfl rfl ?_
  have hC0 := Ctx.start w0
  unfold M.copyFact at hF
  refine W_seq_reg ?_
  refine WL_box (cs := [(.int .i64 a1.1), u1]) hC0 rfl rfl rfl (fun b1 w1 hC1 hB1 => ?_)
  refine WL_alloc hC1 zero108 rfl rfl (fun b2 w2 hC2 hB2 => ?_)
  refine WL_nil ?_
  refine W_seq ?_
  refine W_drawn 7 rfl hmix (fun w3 hB3 => ?_)
  have hC3 := hC2.grow hB3
  refine WA_take 0 rfl (by kernel_rfl) (by kernel_rfl) (by kernel_rfl) rfl (fl_field Try.underlying108 rfl rfl (fun w => ⟨_, Try.sizeOf3 w⟩) rfl) ?_
  refine WL_field Try.underlying108 rfl rfl (fun w => ⟨_, Try.sizeOf3 w⟩) rfl rfl ?_
  refine WL_nil ?_
  refine WA_take 2 rfl (by kernel_rfl) (by kernel_rfl) (by kernel_rfl) rfl (fl_field Try.underlying108 rfl rfl (fun w => ⟨_, Try.sizeOf27 w⟩) rfl) ?_
  refine WL_field Try.underlying108 rfl rfl (fun w => ⟨_, Try.sizeOf27 w⟩) rfl rfl ?_
  refine WL_nil ?_
  obtain ⟨x1, hr1, hF⟩ := bind_some hF
  refine WA.sub (l' := [(0, (.agg #[(.int .i64 a1.1), u1])), (1, (ptr b1 0)), (2, (ptr b2 0)), (3, (ptr b1 0)), (5, (ptr b1 1))]) ?_ ⟨rfl, rfl, rfl, rfl, rfl, trivial⟩
  refine WA_postsE [⟨1, [], fun vs => PW.val (.int .i64 a1.1), []⟩, ⟨3, [], fun vs => PW.val u1, []⟩, ⟨4, [], fun vs => PW.own x1, []⟩] [[], [], [3]] 2 rfl (by kernel_rfl) (by kernel_rfl) rfl ?_ ?_
  · refine StepsE_cons rfl ?_ ?_
    · intro w5 hB5
      refine DepsE_nil ?_
      refine ⟨_, rfl, ?_⟩
      refine WL_load_box (hC3.grow hB5) 1 rfl rfl Try.isAgg3 rfl rfl ?_
      refine WL_nil ?_
      exact FinE_val (Below.refl _ _) rfl rfl ⟨rfl, rfl⟩
    refine StepsE_cons rfl ?_ ?_
    · intro w5 hB5
      refine DepsE_nil ?_
      refine ⟨_, rfl, ?_⟩
      refine WL_load_box (hC3.grow hB5) 1 rfl rfl Try.isAgg27 rfl rfl ?_
      refine WL_nil ?_
      exact FinE_val (Below.refl _ _) rfl rfl ⟨rfl, rfl⟩
    refine StepsE_cons rfl ?_ ?_
    · intro w5 hB5
      refine DepsE_cons rfl rfl rfl ?_
      rintro _ _ ⟨rfl, rfl⟩ _
      refine DepsE_nil ?_
      refine ⟨_, rfl, ?_⟩
      refine WL_call Try.call123 rfl rfl (c_Slices_Clone_Lint_int a1.2 u1 (g1.now (hC3.keep.then hB5)) x1 hr1) ?_
      rintro v1 w4 ⟨hB4, F1, hv1, hn1, hb1⟩
      refine WL_nil ?_
      exact FinE_own hB4 rfl rfl hv1 hn1 hb1 (Val.inh hv1)
    exact StepsE_nil
  · intro w6 hB6
    refine AllE_cons rfl rfl rfl ?_
    rintro _ _ ⟨rfl, rfl⟩
    refine AllE_cons rfl rfl rfl ?_
    rintro _ _ ⟨rfl, rfl⟩
    refine AllE_cons rfl rfl rfl ?_
    intro v1 F1 hv1
    refine AllE_nil ?_
    intro hn2 hb2
    have hC4 := hC3.pushL hB6 (Bs := [Item.own v1 (x1 : (List Int))]) (Fs := [F1]) ⟨F1, _, rfl, hv1, rfl⟩ (by simpa using hn2) (fun b h => (hb2 b (by simpa using h)).1)
    refine WA_take 5 rfl (by kernel_rfl) (by kernel_rfl) (by kernel_rfl) rfl (fl_build (vs := [(0, (.int .i64 a1.1)), (1, v1)]) rfl rfl (built108_0_1 rfl (ro_cells (hC4.ro 0 rfl)))) ?_
    refine WL_build (vs := [(0, (.int .i64 a1.1)), (1, v1)]) rfl rfl rfl (built108_0_1 rfl (ro_cells (hC4.ro 0 rfl))) ?_
    refine WL_nil ?_
    refine WA_one 6 (by kernel_rfl) rfl ?_
    refine WL_store_box_agg (cs' := [(.int .i64 a1.1), v1]) (new := [(.int .i64 a1.1), v1]) hC4 1 rfl rfl (by intro v hv; simp only [List.mem_cons, List.not_mem_nil, or_false] at hv; rcases hv with rfl | rfl; exact rfl; exact (ro_one (hC4.ro 0 rfl))) rfl Try.sizeOf108 rfl rfl (fun w7 hC5 => ?_)
    try dsimp only [List.set] at hC5
    refine WL_nil ?_
    refine WA_done (by kernel_rfl) ?_
    refine nrm_normal ?_
    refine W_ret ?_
    have hq1 := Option.some.inj hF
    subst hq1
    refine fn_retG1 rfl (rv_cell_agg (cs' := [(.int .i64 a1.1), v1]) hC5 (i := 1) rfl rfl rfl Try.isAgg108 Try.sizeOf108 rfl) ?_
    have hC6 := own_st108 a1.1 v1 x1 hC5
    exact ⟨_, rfl, own_res hC6 0 rfl⟩

end Go.Gx.Px
