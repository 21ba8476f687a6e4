/- The contracts of the Go functions against the pure functions, printed by program. Conditions: each says them. -/
import Derived.Test.YtnccdhglieidhaaTy
import Derived.Test.YtnccdhglieidhaaPure
set_option linter.unusedVariables false
set_option linter.unusedSimpArgs false
set_option maxRecDepth 100000
namespace Go.Gx.Px
open Go.Proofs Go.RowKit

theorem c_S_CheckByte {w0 : World} (a1 : Str) (rr : Int) (hF : S.CheckByte a1 = some rr) :
    Calls Try.prog 15 [(sv a1)].toArray w0 fun e w' => ∃ v, e = .returned v ∧ Res w0 rr v w' := by
  refine calls_of_W Try.func15 rfl rfl ?_
  have hC0 := Ctx.start w0
  unfold S.CheckByte at hF
  refine W_seq_reg ?_
  refine WL_assign rfl rfl ?_
  refine WL_nil ?_
  refine W_seq_reg ?_
  refine WL_assign rfl rfl ?_
  refine WL_nil ?_
  refine W_seq ?_
  refine W_seq_reg ?_
  refine WL_assign rfl rfl ?_
  refine WL_nil ?_
  obtain ⟨r1, hr1, hF⟩ := bind_some hF
  refine W_norm (fun l w => ∃ x3 : Int, x3 = r1 ∧ l = [(3, (.int .i64 x3))] ∧ Below w0.heap.size w0 w ∧ Ctx [] w0 w []) ?_ ?_
  · refine W_block ?_
    refine W.sub (l' := [(0, (sv a1)), (3, (.int .i64 7)), (4, (.int .i64 0))]) ?_ ⟨rfl, rfl, rfl, trivial⟩
    refine W_loop (fun k l w => ∃ x1 : Int, ∃ x2 : Int, l = [(0, (sv a1)), (3, (.int .i64 x1)), (4, (.int .i64 x2))] ∧ Below w0.heap.size w0 w ∧ Ctx [] w0 w [] ∧ S.CheckByte_l1 a1 k x1 x2 = some r1) FUEL ⟨7, 0, rfl, (Below.refl _ _), hC0, hr1⟩ ?_
    clear hr1
    rintro k1 _ w1 ⟨x1, x2, rfl, hB1, hC1, hL1⟩
    cases k1 with
    | zero => rw [S.CheckByte_l1] at hL1; cases hL1
    | succ k1 =>
      rw [S.CheckByte_l1] at hL1
      refine W_seq ?_
      refine W_seq_reg ?_
      refine WL_move rfl rfl ?_
      refine WL_move rfl rfl ?_
      refine WL_len_str Try.underlying9 rfl rfl ?_
      refine WL_lss rfl rfl rfl ?_
      refine WL_nil ?_
      refine W_cond rfl (fun hc1 => ?_) (fun hc1 => ?_)
      · replace hL1 := ite_t hL1 hc1
        refine W_skip ?_
        refine nrm_normal ?_
        refine W_seq ?_
        refine W_block ?_
        refine W_reg ?_
        refine WL_move rfl rfl ?_
        refine WL_mul rfl rfl rfl ?_
        refine WL_move rfl rfl ?_
        refine WL_move rfl rfl ?_
        obtain ⟨x4, hx1, hL1⟩ := bind_some hL1
        refine WL_index_str Try.underlying9 hx1 rfl rfl rfl ?_
        refine WL_conv_i64 Try.underlying5 Try.underlying3 rfl rfl ?_
        refine WL_add rfl rfl rfl ?_
        refine WL_rem (by decide) rfl rfl rfl ?_
        refine WL_assign rfl rfl ?_
        refine WL_nil ?_
        refine blk_normal ?_
        refine nrm_normal ?_
        refine W_reg ?_
        refine WL_move rfl rfl ?_
        refine WL_add rfl rfl rfl ?_
        refine WL_assign rfl rfl ?_
        refine WL_nil ?_
        refine nrm_sub (l' := [(0, (sv a1)), (3, (.int .i64 ((w64 ((w64 (x1 * 31)) + (w64 (UInt8.toNat x4 : Int)))).tmod 251))), (4, (.int .i64 (w64 (x2 + 1))))]) ⟨rfl, rfl, rfl, trivial⟩ ?_
        exact ⟨k1, Nat.lt_succ_self _, (w64 ((w64 (x1 * 31)) + (w64 (UInt8.toNat x4 : Int)))).tmod 251, w64 (x2 + 1), rfl, (Keep.of hB1).below, hC1, hL1⟩
      · replace hL1 := ite_f hL1 hc1
        refine W_exit ?_
        refine nrm_exit ?_
        refine nrm_exit ?_
        refine blk_exit ?_
        have hq1 := Option.some.inj hL1
        subst hq1
        refine nrm_sub (l' := [(3, (.int .i64 x1))]) ⟨rfl, trivial⟩ ?_
        exact ⟨x1, rfl, rfl, (Keep.of hB1).below, hC1⟩
  · rintro l2 _ w2 hs2 ⟨x3, rfl, rfl, hB2, hC2⟩
    try dsimp only at hF
    refine nrm_sub' hs2 ?_
    clear hs2
    refine W_seq_reg ?_
    refine WL_move rfl rfl ?_
    refine WL_assign rfl rfl ?_
    refine WL_nil ?_
    refine W_ret ?_
    have hq2 := Option.some.inj hF
    subst hq2
    refine fn_ret1 rfl rfl ?_
    exact ⟨_, rfl, int_res hC2 _⟩

theorem c_M_CheckByte {w0 : World} (a1 : Str) (rr : Int) (hF : M.CheckByte a1 = some rr) :
    Calls Try.prog 16 [(sv a1)].toArray w0 fun e w' => ∃ v, e = .returned v ∧ Res w0 rr v w' := by
  refine calls_of_W Try.func16 rfl rfl ?_
  have hC0 := Ctx.start w0
  unfold M.CheckByte at hF
  refine W_seq_reg ?_
  refine WL_assign rfl rfl ?_
  refine WL_nil ?_
  refine W_seq_reg ?_
  refine WL_assign rfl rfl ?_
  refine WL_nil ?_
  refine W_seq ?_
  refine W_seq_reg ?_
  refine WL_move rfl rfl ?_
  refine WL_len_str Try.underlying9 rfl rfl ?_
  refine WL_move rfl rfl ?_
  refine WL_nil ?_
  obtain ⟨r1, hr1, hF⟩ := bind_some hF
  refine W_norm (fun l w => ∃ x3 : Int, x3 = r1 ∧ l = [(3, (.int .i64 x3))] ∧ Below w0.heap.size w0 w ∧ Ctx [] w0 w []) ?_ ?_
  · refine W_block ?_
    refine W.sub (l' := [(0, (sv a1)), (3, (.int .i64 7)), (6, (.int .i64 (List.length a1 : Int))), (7, (.int .i64 0))]) ?_ ⟨rfl, rfl, rfl, rfl, trivial⟩
    refine W_loop (fun k l w => ∃ x1 : Int, ∃ x2 : Int, l = [(0, (sv a1)), (3, (.int .i64 x1)), (6, (.int .i64 (List.length a1 : Int))), (7, (.int .i64 x2))] ∧ Below w0.heap.size w0 w ∧ Ctx [] w0 w [] ∧ M.CheckByte_l1 a1 k x1 x2 = some r1) FUEL ⟨7, 0, rfl, (Below.refl _ _), hC0, hr1⟩ ?_
    clear hr1
    rintro k1 _ w1 ⟨x1, x2, rfl, hB1, hC1, hL1⟩
    cases k1 with
    | zero => rw [M.CheckByte_l1] at hL1; cases hL1
    | succ k1 =>
      rw [M.CheckByte_l1] at hL1
      refine W_seq_reg ?_
      refine WL_lss rfl rfl rfl ?_
      refine WL_nil ?_
      refine W_seq ?_
      refine W_cond rfl (fun hc1 => ?_) (fun hc1 => ?_)
      · replace hL1 := ite_t hL1 hc1
        refine W_skip ?_
        refine nrm_normal ?_
        refine W_seq ?_
        refine W_block ?_
        refine W_seq_reg ?_
        refine WL_move rfl rfl ?_
        refine WL_assign rfl rfl ?_
        refine WL_nil ?_
        refine W_reg ?_
        refine WL_move rfl rfl ?_
        refine WL_mul rfl rfl rfl ?_
        refine WL_move rfl rfl ?_
        refine WL_move rfl rfl ?_
        obtain ⟨x4, hx1, hL1⟩ := bind_some hL1
        refine WL_index_str Try.underlying9 hx1 rfl rfl rfl ?_
        refine WL_conv_i64 Try.underlying5 Try.underlying3 rfl rfl ?_
        refine WL_add rfl rfl rfl ?_
        refine WL_rem (by decide) rfl rfl rfl ?_
        refine WL_assign rfl rfl ?_
        refine WL_nil ?_
        refine blk_normal ?_
        refine nrm_normal ?_
        refine W_reg ?_
        refine WL_add rfl rfl rfl ?_
        refine WL_move rfl rfl ?_
        refine WL_nil ?_
        refine nrm_sub (l' := [(0, (sv a1)), (3, (.int .i64 ((w64 ((w64 (31 * x1)) + (w64 (UInt8.toNat x4 : Int)))).tmod 251))), (6, (.int .i64 (List.length a1 : Int))), (7, (.int .i64 (w64 (x2 + 1))))]) ⟨rfl, rfl, rfl, rfl, trivial⟩ ?_
        exact ⟨k1, Nat.lt_succ_self _, (w64 ((w64 (31 * x1)) + (w64 (UInt8.toNat x4 : Int)))).tmod 251, w64 (x2 + 1), rfl, (Keep.of hB1).below, hC1, hL1⟩
      · replace hL1 := ite_f hL1 hc1
        refine W_exit ?_
        refine nrm_exit ?_
        refine nrm_exit ?_
        refine blk_exit ?_
        have hq1 := Option.some.inj hL1
        subst hq1
        refine nrm_sub (l' := [(3, (.int .i64 x1))]) ⟨rfl, trivial⟩ ?_
        exact ⟨x1, rfl, rfl, (Keep.of hB1).below, hC1⟩
  · rintro l2 _ w2 hs2 ⟨x3, rfl, rfl, hB2, hC2⟩
    try dsimp only at hF
    refine nrm_sub' hs2 ?_
    clear hs2
    refine W_seq_reg ?_
    refine WL_move rfl rfl ?_
    refine WL_assign rfl rfl ?_
    refine WL_nil ?_
    refine W_ret ?_
    have hq2 := Option.some.inj hF
    subst hq2
    refine fn_ret1 rfl rfl ?_
    exact ⟨_, rfl, int_res hC2 _⟩

theorem c_Q_FnExactCheckByte {w0 : World} (a1 : Str) (rr : Bool) (hF : Q.FnExactCheckByte a1 = some rr) :
    Calls Try.prog 3 [(sv a1)].toArray w0 fun e w' => ∃ v, e = .returned v ∧ Res w0 rr v w' := by
  refine calls_of_W Try.func3 rfl rfl ?_
  have hC0 := Ctx.start w0
  unfold Q.FnExactCheckByte at hF
  refine W_seq_reg ?_
  refine WL_assign rfl rfl ?_
  refine WL_nil ?_
  refine W_seq ?_
  refine W_seq_reg ?_
  refine WL_move rfl rfl ?_
  refine WL_len_str Try.underlying9 rfl rfl ?_
  refine WL_gtr rfl rfl rfl ?_
  refine WL_nil ?_
  refine W_cond rfl (fun hc1 => ?_) (fun hc1 => ?_)
  · replace hF := ite_t hF hc1
    refine W_seq_reg ?_
    refine WL_assign rfl rfl ?_
    refine WL_nil ?_
    refine W_ret ?_
    refine nrm_ret ?_
    have hq1 := Option.some.inj hF
    subst hq1
    refine fn_ret1 rfl rfl ?_
    exact ⟨_, rfl, bool_res hC0 _⟩
  · replace hF := ite_f hF hc1
    refine W_skip ?_
    refine nrm_normal ?_
    refine W_seq_reg ?_
    refine WL_move rfl rfl ?_
    obtain ⟨x1, hr1, hF⟩ := bind_some hF
    refine WL_call Try.call15 rfl rfl (c_S_CheckByte a1 x1 hr1) ?_
    intro _ w1 hv1
    obtain ⟨rfl, hB1⟩ := res_int hv1
    have hC1 := hC0.grow hB1
    refine WL_assign rfl rfl ?_
    refine WL_nil ?_
    refine W_seq_reg ?_
    refine WL_move rfl rfl ?_
    obtain ⟨x2, hr2, hF⟩ := bind_some hF
    refine WL_call Try.call16 rfl rfl (c_M_CheckByte a1 x2 hr2) ?_
    intro _ w2 hv2
    obtain ⟨rfl, hB2⟩ := res_int hv2
    have hC2 := hC1.grow hB2
    refine WL_assign rfl rfl ?_
    refine WL_nil ?_
    refine W_seq ?_
    refine W_seq_reg ?_
    refine WL_move rfl rfl ?_
    refine WL_move rfl rfl ?_
    refine WL_neq rfl rfl rfl ?_
    refine WL_nil ?_
    refine W_cond rfl (fun hc2 => ?_) (fun hc2 => ?_)
    · replace hF := ite_t hF hc2
      refine W_seq_reg ?_
      refine WL_assign rfl rfl ?_
      refine WL_nil ?_
      refine W_ret ?_
      refine nrm_ret ?_
      have hq2 := Option.some.inj hF
      subst hq2
      refine fn_ret1 rfl rfl ?_
      exact ⟨_, rfl, bool_res hC2 _⟩
    · replace hF := ite_f hF hc2
      refine W_skip ?_
      refine nrm_normal ?_
      refine W_seq_reg ?_
      refine WL_assign rfl rfl ?_
      refine WL_nil ?_
      refine W_ret ?_
      have hq3 := Option.some.inj hF
      subst hq3
      refine fn_ret1 rfl rfl ?_
      exact ⟨_, rfl, bool_res hC2 _⟩

theorem c_S_l1In {w0 : World} (a1 : Int) (a2 : Int) (a3 : Int) (rr : Bool) (hF : S.l1In a1 a2 a3 = some rr) :
    Calls Try.prog 79 [(.int .i64 a1), (.int .i64 a2), (.int .i64 a3)].toArray w0 fun e w' => ∃ v, e = .returned v ∧ Res w0 rr v w' := by
  refine calls_of_W Try.func79 rfl rfl ?_
  have hC0 := Ctx.start w0
  unfold S.l1In at hF
  refine W_seq_reg ?_
  refine WL_assign rfl rfl ?_
  refine WL_nil ?_
  obtain ⟨r1, hr1, hF⟩ := bind_some hF
  refine W_cut (fun l w => ∃ x1 : Bool, x1 = r1 ∧ l = [(6, (.bool x1))] ∧ Below w0.heap.size w0 w ∧ Ctx [] w0 w []) ?_ ?_
  · refine W_reg ?_
    refine WL_move rfl rfl ?_
    refine WL_move rfl rfl ?_
    refine WL_geq rfl rfl rfl ?_
    refine WL_move rfl rfl ?_
    refine WL_fork (fun hc1 => ?_) (fun hc1 => ?_)
    · replace hr1 := ite_t hr1 hc1
      refine WL_guard rfl rfl ?_
      refine WL_move rfl rfl ?_
      refine WL_guard rfl rfl ?_
      refine WL_move rfl rfl ?_
      refine WL_guard rfl rfl ?_
      refine WL_leq rfl rfl rfl ?_
      refine WL_pick_t rfl rfl rfl ?_
      refine WL_assign rfl rfl ?_
      refine WL_nil ?_
      have hq1 := Option.some.inj hr1
      subst hq1
      refine nrm_sub (l' := [(6, (.bool (decide (a1 ≤ a3))))]) ⟨rfl, trivial⟩ ?_
      exact ⟨(decide (a1 ≤ a3)), rfl, rfl, (Below.refl _ _), hC0⟩
    · replace hr1 := ite_f hr1 hc1
      refine WL_guard_skip rfl rfl (by simp) rfl ?_
      refine WL_guard_skip rfl rfl (by simp) rfl ?_
      refine WL_guard_skip rfl rfl (by simp) rfl ?_
      refine WL_pick_f rfl rfl rfl ?_
      refine WL_assign rfl rfl ?_
      refine WL_nil ?_
      have hq2 := Option.some.inj hr1
      subst hq2
      refine nrm_sub (l' := [(6, (.bool false))]) ⟨rfl, trivial⟩ ?_
      exact ⟨false, rfl, rfl, (Below.refl _ _), hC0⟩
  · rintro _ w1 ⟨x1, rfl, rfl, hB1, hC1⟩
    try dsimp only at hF
    refine W_ret ?_
    have hq3 := Option.some.inj hF
    subst hq3
    refine fn_ret1 rfl rfl ?_
    exact ⟨_, rfl, bool_res hC1 _⟩

theorem c_M_within {w0 : World} (a1 : Int) (a2 : Int) (a3 : Int) (rr : Bool) (hF : M.within a1 a2 a3 = some rr) :
    Calls Try.prog 84 [(.int .i64 a1), (.int .i64 a2), (.int .i64 a3)].toArray w0 fun e w' => ∃ v, e = .returned v ∧ Res w0 rr v w' := by
  refine calls_of_W Try.func84 rfl rfl ?_
  have hC0 := Ctx.start w0
  unfold M.within at hF
  refine W_seq_reg ?_
  refine WL_assign rfl rfl ?_
  refine WL_nil ?_
  obtain ⟨r1, hr1, hF⟩ := bind_some hF
  refine W_cut (fun l w => ∃ x1 : Bool, x1 = r1 ∧ l = [(6, (.bool x1))] ∧ Below w0.heap.size w0 w ∧ Ctx [] w0 w []) ?_ ?_
  · refine W_reg ?_
    refine WL_move rfl rfl ?_
    refine WL_move rfl rfl ?_
    refine WL_geq rfl rfl rfl ?_
    refine WL_move rfl rfl ?_
    refine WL_fork (fun hc1 => ?_) (fun hc1 => ?_)
    · replace hr1 := ite_t hr1 hc1
      refine WL_guard rfl rfl ?_
      refine WL_move rfl rfl ?_
      refine WL_guard rfl rfl ?_
      refine WL_move rfl rfl ?_
      refine WL_guard rfl rfl ?_
      refine WL_leq rfl rfl rfl ?_
      refine WL_pick_t rfl rfl rfl ?_
      refine WL_assign rfl rfl ?_
      refine WL_nil ?_
      have hq1 := Option.some.inj hr1
      subst hq1
      refine nrm_sub (l' := [(6, (.bool (decide (a1 ≤ a3))))]) ⟨rfl, trivial⟩ ?_
      exact ⟨(decide (a1 ≤ a3)), rfl, rfl, (Below.refl _ _), hC0⟩
    · replace hr1 := ite_f hr1 hc1
      refine WL_guard_skip rfl rfl (by simp) rfl ?_
      refine WL_guard_skip rfl rfl (by simp) rfl ?_
      refine WL_guard_skip rfl rfl (by simp) rfl ?_
      refine WL_pick_f rfl rfl rfl ?_
      refine WL_assign rfl rfl ?_
      refine WL_nil ?_
      have hq2 := Option.some.inj hr1
      subst hq2
      refine nrm_sub (l' := [(6, (.bool false))]) ⟨rfl, trivial⟩ ?_
      exact ⟨false, rfl, rfl, (Below.refl _ _), hC0⟩
  · rintro _ w1 ⟨x1, rfl, rfl, hB1, hC1⟩
    try dsimp only at hF
    refine W_ret ?_
    have hq3 := Option.some.inj hF
    subst hq3
    refine fn_ret1 rfl rfl ?_
    exact ⟨_, rfl, bool_res hC1 _⟩

theorem c_Q_szIntS {w0 : World} (a1 : (List Int)) (u1 : Value) (g1 : RO [] w0 u1 a1) (a2 : Int) (rr : Int) (hF : Q.szIntS a1 a2 = some rr) :
    Calls Try.prog 78 [u1, (.int .i64 a2)].toArray w0 fun e w' => ∃ v, e = .returned v ∧ Res w0 rr v w' := by
  refine calls_of_W Try.func78 rfl rfl ?_
  have hC0 := Ctx.start w0
  unfold Q.szIntS at hF
  refine W_seq_reg ?_
  refine WL_assign rfl rfl ?_
  refine WL_nil ?_
  refine W_seq_reg ?_
  refine WL_move rfl rfl ?_
  refine WL_move rfl rfl ?_
  refine WL_len Try.underlying27 g1 rfl rfl ?_
  refine WL_sub rfl rfl rfl ?_
  refine WL_assign rfl rfl ?_
  refine WL_nil ?_
  refine W_seq ?_
  refine W_seq_reg ?_
  refine WL_move rfl rfl ?_
  refine WL_lss rfl rfl rfl ?_
  refine WL_nil ?_
  refine W_cond rfl (fun hc1 => ?_) (fun hc1 => ?_)
  · replace hF := ite_t hF hc1
    refine W_seq_reg ?_
    refine WL_assign rfl rfl ?_
    refine WL_nil ?_
    refine W_ret ?_
    refine nrm_ret ?_
    have hq1 := Option.some.inj hF
    subst hq1
    refine fn_ret1 rfl rfl ?_
    exact ⟨_, rfl, int_res hC0 _⟩
  · replace hF := ite_f hF hc1
    refine W_skip ?_
    refine nrm_normal ?_
    refine W_seq_reg ?_
    refine WL_move rfl rfl ?_
    refine WL_assign rfl rfl ?_
    refine WL_nil ?_
    refine W_ret ?_
    have hq2 := Option.some.inj hF
    subst hq2
    refine fn_ret1 rfl rfl ?_
    exact ⟨_, rfl, int_res hC0 _⟩

theorem c_Q_szLedger {w0 : World} (a1 : ((List Int) × Int × Int)) (u1 : Value) (g1 : RO [] w0 u1 a1.1) (a2 : Int) (rr : Int) (hF : Q.szLedger a1 a2 = some rr) :
    Calls Try.prog 21 [(.agg #[u1, (.int .i64 a1.2.1), (.int .i64 a1.2.2)]), (.int .i64 a2)].toArray w0 fun e w' => ∃ v, e = .returned v ∧ Res w0 rr v w' := by
  refine calls_of_W Try.func21 rfl rfl ?_
  have hC0 := Ctx.start w0
  unfold Q.szLedger at hF
  refine W_seq_reg ?_
  refine WL_box (cs := [u1, (.int .i64 a1.2.1), (.int .i64 a1.2.2)]) hC0 rfl rfl rfl (fun b1 w1 hC1 hB1 => ?_)
  refine WL_assign rfl rfl ?_
  refine WL_nil ?_
  refine W_seq_reg ?_
  refine WL_field Try.underlying29 rfl rfl (fun w => ⟨_, Try.sizeOf27 w⟩) rfl rfl ?_
  refine WL_load_box hC1 0 rfl rfl Try.isAgg27 rfl rfl ?_
  refine WL_move rfl rfl ?_
  obtain ⟨x1, hr1, hF⟩ := bind_some hF
  refine WL_call Try.call78 rfl rfl (c_Q_szIntS a1.1 u1 (g1.now hC1.keep) a2 x1 hr1) ?_
  intro _ w2 hv1
  obtain ⟨rfl, hB2⟩ := res_int hv1
  have hC2 := hC1.grow hB2
  refine WL_assign rfl rfl ?_
  refine WL_nil ?_
  refine W_seq ?_
  refine W_seq_reg ?_
  refine WL_move rfl rfl ?_
  refine WL_lss rfl rfl rfl ?_
  refine WL_nil ?_
  refine W_cond rfl (fun hc1 => ?_) (fun hc1 => ?_)
  · replace hF := ite_t hF hc1
    refine W_seq_reg ?_
    refine WL_assign rfl rfl ?_
    refine WL_nil ?_
    refine W_ret ?_
    refine nrm_ret ?_
    have hq1 := Option.some.inj hF
    subst hq1
    refine fn_ret1 rfl rfl ?_
    exact ⟨_, rfl, int_res hC2 _⟩
  · replace hF := ite_f hF hc1
    refine W_skip ?_
    refine nrm_normal ?_
    refine W_seq_reg ?_
    refine WL_move rfl rfl ?_
    refine WL_assign rfl rfl ?_
    refine WL_nil ?_
    refine W_ret ?_
    have hq2 := Option.some.inj hF
    subst hq2
    refine fn_ret1 rfl rfl ?_
    exact ⟨_, rfl, int_res hC2 _⟩

theorem c_M_ascending {w0 : World} (a1 : (List Int)) (u1 : Value) (g1 : RO [] w0 u1 a1) (rr : Bool) (hF : M.ascending a1 = some rr) :
    Calls Try.prog 80 [u1].toArray w0 fun e w' => ∃ v, e = .returned v ∧ Res w0 rr v w' := by
  refine calls_of_W Try.func80 rfl rfl ?_
  have hC0 := Ctx.start w0
  unfold M.ascending at hF
  refine W_seq_reg ?_
  refine WL_assign rfl rfl ?_
  refine WL_nil ?_
  refine W_seq ?_
  refine W_seq_reg ?_
  refine WL_move rfl rfl ?_
  refine WL_len Try.underlying27 g1 rfl rfl ?_
  refine WL_move rfl rfl ?_
  refine WL_nil ?_
  obtain ⟨r1, hr1, hF⟩ := bind_some hF
  refine W_norm (fun l w => .inl () = r1 ∧ l = [] ∧ Below w0.heap.size w0 w ∧ Ctx [] w0 w []) ?_ ?_
  · refine W_block ?_
    refine W.sub (l' := [(0, u1), (5, (.int .i64 (List.length a1 : Int))), (6, (.int .i64 0))]) ?_ ⟨rfl, rfl, rfl, trivial⟩
    refine W_loop (fun k l w => ∃ x1 : Int, l = [(0, u1), (5, (.int .i64 (List.length a1 : Int))), (6, (.int .i64 x1))] ∧ Below w0.heap.size w0 w ∧ Ctx [] w0 w [] ∧ M.ascending_l1 a1 k x1 = some r1) FUEL ⟨0, rfl, (Below.refl _ _), hC0, hr1⟩ ?_
    clear hr1
    rintro k1 _ w1 ⟨x1, rfl, hB1, hC1, hL1⟩
    cases k1 with
    | zero => rw [M.ascending_l1] at hL1; cases hL1
    | succ k1 =>
      rw [M.ascending_l1] at hL1
      refine W_seq_reg ?_
      refine WL_lss rfl rfl rfl ?_
      refine WL_nil ?_
      refine W_seq ?_
      refine W_cond rfl (fun hc1 => ?_) (fun hc1 => ?_)
      · replace hL1 := ite_t hL1 hc1
        refine W_skip ?_
        refine nrm_normal ?_
        refine W_seq ?_
        refine W_block ?_
        refine W_seq_reg ?_
        refine WL_move rfl rfl ?_
        refine WL_assign rfl rfl ?_
        refine WL_nil ?_
        obtain ⟨r2, hr2, hL1⟩ := bind_some hL1
        refine W_cut (fun l w => ∃ x2 : Bool, x2 = r2 ∧ l = [(0, u1), (5, (.int .i64 (List.length a1 : Int))), (6, (.int .i64 x1)), (22, (.bool x2))] ∧ Below w1.heap.size w1 w ∧ Ctx [] w0 w []) ?_ ?_
        · rcases btf (decide (0 < x1)) with hc2 | hc2
          · replace hr2 := ite_t hr2 hc2
            obtain ⟨x3, hx1, hr2⟩ := bind_some hr2
            obtain ⟨x4, hx2, hr2⟩ := bind_some hr2
            refine W.sub (l' := [(0, u1), (3, (.int .i64 x1)), (5, (.int .i64 (List.length a1 : Int))), (6, (.int .i64 x1)), (7, (.bool (decide (x1 < (List.length a1 : Int))))), (8, (.int .i64 x1))]) ?_ ⟨rfl, rfl, rfl, rfl, rfl, rfl, trivial⟩
            refine W_any 12 [PV.val (.int .i64 x1), PV.val (.bool (decide (0 < x1))), PV.val (.bool true), PV.val u1, PV.val (.int .i64 x1), PV.at [] w0 x3, PV.val (.int .i64 x3), PV.val u1, PV.val (.int .i64 x1), PV.val (.int .i64 (w64 (x1 - 1))), PV.at [] w0 x4, PV.val (.int .i64 x4)] [[], [0], [1], [2], [2], [2, 3, 4], [2, 5], [2], [2], [2, 8], [2, 7, 9], [2, 10]] hmix (by kernel_rfl) rfl ?_ ?_
            · refine Steps_cons ?_ ?_
              · intro w3 hB3
                refine DepsK_nil ?_
                refine WL_move rfl rfl ?_
                refine WL_nil ?_
                exact Fin1_val (Below.refl _ _) rfl rfl ⟨rfl, rfl⟩
              refine Steps_cons ?_ ?_
              · intro w3 hB3
                refine DepsK_cons rfl rfl ?_
                rintro _ _ ⟨rfl, rfl⟩
                refine DepsK_nil ?_
                refine WL_gtr rfl rfl rfl ?_
                refine WL_nil ?_
                exact Fin1_val (Below.refl _ _) rfl rfl ⟨rfl, rfl⟩
              refine Steps_cons ?_ ?_
              · intro w3 hB3
                refine DepsK_cons rfl rfl ?_
                rintro _ _ ⟨rfl, rfl⟩
                refine DepsK_nil ?_
                refine WL_move rfl rfl ?_
                refine WL_known hc2 ?_
                refine WL_nil ?_
                exact Fin1_val (Below.refl _ _) rfl rfl ⟨rfl, rfl⟩
              refine Steps_cons ?_ ?_
              · intro w3 hB3
                refine DepsK_cons rfl rfl ?_
                rintro _ _ ⟨rfl, rfl⟩
                refine DepsK_nil ?_
                refine WL_guard rfl rfl ?_
                refine WL_move rfl rfl ?_
                refine WL_nil ?_
                exact Fin1_val (Below.refl _ _) rfl rfl ⟨rfl, rfl⟩
              refine Steps_cons ?_ ?_
              · intro w3 hB3
                refine DepsK_cons rfl rfl ?_
                rintro _ _ ⟨rfl, rfl⟩
                refine DepsK_nil ?_
                refine WL_guard rfl rfl ?_
                refine WL_move rfl rfl ?_
                refine WL_nil ?_
                exact Fin1_val (Below.refl _ _) rfl rfl ⟨rfl, rfl⟩
              refine Steps_cons ?_ ?_
              · intro w3 hB3
                refine DepsK_cons rfl rfl ?_
                rintro _ _ ⟨rfl, rfl⟩
                refine DepsK_cons rfl rfl ?_
                rintro _ _ ⟨rfl, rfl⟩
                refine DepsK_cons rfl rfl ?_
                rintro _ _ ⟨rfl, rfl⟩
                refine DepsK_nil ?_
                refine WL_guard rfl rfl ?_
                refine WL_index Try.underlying27 ty3 g1 hx1 rfl rfl rfl (fun b1 o1 h1 => ?_)
                refine WL_nil ?_
                exact Fin1_val (Below.refl _ _) rfl rfl ⟨rfl, _, _, rfl, h1⟩
              refine Steps_cons ?_ ?_
              · intro w3 hB3
                refine DepsK_cons rfl rfl ?_
                rintro _ _ ⟨rfl, rfl⟩
                refine DepsK_cons rfl rfl ?_
                rintro _ _ ⟨rfl, b1, o1, rfl, h1⟩
                refine DepsK_nil ?_
                refine WL_guard rfl rfl ?_
                refine WL_load ty3 h1 (hC1.keep.then hB3) rfl rfl (fun v1 h2 => ?_)
                obtain rfl := ro_int h2
                refine WL_nil ?_
                exact Fin1_val (Below.refl _ _) rfl rfl ⟨rfl, rfl⟩
              refine Steps_cons ?_ ?_
              · intro w3 hB3
                refine DepsK_cons rfl rfl ?_
                rintro _ _ ⟨rfl, rfl⟩
                refine DepsK_nil ?_
                refine WL_guard rfl rfl ?_
                refine WL_move rfl rfl ?_
                refine WL_nil ?_
                exact Fin1_val (Below.refl _ _) rfl rfl ⟨rfl, rfl⟩
              refine Steps_cons ?_ ?_
              · intro w3 hB3
                refine DepsK_cons rfl rfl ?_
                rintro _ _ ⟨rfl, rfl⟩
                refine DepsK_nil ?_
                refine WL_guard rfl rfl ?_
                refine WL_move rfl rfl ?_
                refine WL_nil ?_
                exact Fin1_val (Below.refl _ _) rfl rfl ⟨rfl, rfl⟩
              refine Steps_cons ?_ ?_
              · intro w3 hB3
                refine DepsK_cons rfl rfl ?_
                rintro _ _ ⟨rfl, rfl⟩
                refine DepsK_cons rfl rfl ?_
                rintro _ _ ⟨rfl, rfl⟩
                refine DepsK_nil ?_
                refine WL_guard rfl rfl ?_
                refine WL_sub rfl rfl rfl ?_
                refine WL_nil ?_
                exact Fin1_val (Below.refl _ _) rfl rfl ⟨rfl, rfl⟩
              refine Steps_cons ?_ ?_
              · intro w3 hB3
                refine DepsK_cons rfl rfl ?_
                rintro _ _ ⟨rfl, rfl⟩
                refine DepsK_cons rfl rfl ?_
                rintro _ _ ⟨rfl, rfl⟩
                refine DepsK_cons rfl rfl ?_
                rintro _ _ ⟨rfl, rfl⟩
                refine DepsK_nil ?_
                refine WL_guard rfl rfl ?_
                refine WL_index Try.underlying27 ty3 g1 hx2 rfl rfl rfl (fun b2 o2 h3 => ?_)
                refine WL_nil ?_
                exact Fin1_val (Below.refl _ _) rfl rfl ⟨rfl, _, _, rfl, h3⟩
              refine Steps_cons ?_ ?_
              · intro w3 hB3
                refine DepsK_cons rfl rfl ?_
                rintro _ _ ⟨rfl, rfl⟩
                refine DepsK_cons rfl rfl ?_
                rintro _ _ ⟨rfl, b2, o2, rfl, h3⟩
                refine DepsK_nil ?_
                refine WL_guard rfl rfl ?_
                refine WL_load ty3 h3 (hC1.keep.then hB3) rfl rfl (fun v2 h4 => ?_)
                obtain rfl := ro_int h4
                refine WL_nil ?_
                exact Fin1_val (Below.refl _ _) rfl rfl ⟨rfl, rfl⟩
              exact Steps_nil
            · intro w4 hB4
              refine AllK_cons rfl ?_
              rintro _ _ ⟨rfl, rfl⟩
              refine AllK_cons rfl ?_
              rintro _ _ ⟨rfl, rfl⟩
              refine AllK_cons rfl ?_
              rintro _ _ ⟨rfl, rfl⟩
              refine AllK_cons rfl ?_
              rintro _ _ ⟨rfl, rfl⟩
              refine AllK_cons rfl ?_
              rintro _ _ ⟨rfl, rfl⟩
              refine AllK_cons rfl ?_
              rintro _ _ ⟨rfl, b1, o1, rfl, h1⟩
              refine AllK_cons rfl ?_
              rintro _ _ ⟨rfl, rfl⟩
              refine AllK_cons rfl ?_
              rintro _ _ ⟨rfl, rfl⟩
              refine AllK_cons rfl ?_
              rintro _ _ ⟨rfl, rfl⟩
              refine AllK_cons rfl ?_
              rintro _ _ ⟨rfl, rfl⟩
              refine AllK_cons rfl ?_
              rintro _ _ ⟨rfl, b2, o2, rfl, h3⟩
              refine AllK_cons rfl ?_
              rintro _ _ ⟨rfl, rfl⟩
              refine AllK_nil ?_
              intro hn1 hb1
              have hC3 := hC1.grow hB4
              refine WL_guard rfl rfl ?_
              refine WL_leq rfl rfl rfl ?_
              refine WL_pick_t rfl rfl rfl ?_
              refine WL_nil ?_
              have hq1 := Option.some.inj hr2
              subst hq1
              refine nrm_sub (l' := [(0, u1), (5, (.int .i64 (List.length a1 : Int))), (6, (.int .i64 x1)), (22, (.bool (decide (x3 ≤ x4))))]) ⟨rfl, rfl, rfl, rfl, trivial⟩ ?_
              exact ⟨(decide (x3 ≤ x4)), rfl, rfl, (Keep.of hB4).below, hC3⟩
          · replace hr2 := ite_f hr2 hc2
            refine W.sub (l' := [(0, u1), (3, (.int .i64 x1)), (5, (.int .i64 (List.length a1 : Int))), (6, (.int .i64 x1)), (7, (.bool (decide (x1 < (List.length a1 : Int))))), (8, (.int .i64 x1))]) ?_ ⟨rfl, rfl, rfl, rfl, rfl, rfl, trivial⟩
            refine W_any 12 [PV.val (.int .i64 x1), PV.val (.bool (decide (0 < x1))), PV.val (.bool false), PV.any, PV.any, PV.any, PV.any, PV.any, PV.any, PV.any, PV.any, PV.any] [[], [0], [1], [2], [2], [2, 3, 4], [2, 5], [2], [2], [2, 8], [2, 7, 9], [2, 10]] hmix (by kernel_rfl) rfl ?_ ?_
            · refine Steps_cons ?_ ?_
              · intro w5 hB5
                refine DepsK_nil ?_
                refine WL_move rfl rfl ?_
                refine WL_nil ?_
                exact Fin1_val (Below.refl _ _) rfl rfl ⟨rfl, rfl⟩
              refine Steps_cons ?_ ?_
              · intro w5 hB5
                refine DepsK_cons rfl rfl ?_
                rintro _ _ ⟨rfl, rfl⟩
                refine DepsK_nil ?_
                refine WL_gtr rfl rfl rfl ?_
                refine WL_nil ?_
                exact Fin1_val (Below.refl _ _) rfl rfl ⟨rfl, rfl⟩
              refine Steps_cons ?_ ?_
              · intro w5 hB5
                refine DepsK_cons rfl rfl ?_
                rintro _ _ ⟨rfl, rfl⟩
                refine DepsK_nil ?_
                refine WL_move rfl rfl ?_
                refine WL_known hc2 ?_
                refine WL_nil ?_
                exact Fin1_val (Below.refl _ _) rfl rfl ⟨rfl, rfl⟩
              refine Steps_cons ?_ ?_
              · intro w5 hB5
                refine DepsK_cons rfl rfl ?_
                rintro _ _ ⟨rfl, rfl⟩
                refine DepsK_nil ?_
                refine WL_guard_skip rfl rfl (by simp) rfl ?_
                refine WL_nil ?_
                exact Fin1_val (Below.refl _ _) rfl rfl rfl
              refine Steps_cons ?_ ?_
              · intro w5 hB5
                refine DepsK_cons rfl rfl ?_
                rintro _ _ ⟨rfl, rfl⟩
                refine DepsK_nil ?_
                refine WL_guard_skip rfl rfl (by simp) rfl ?_
                refine WL_nil ?_
                exact Fin1_val (Below.refl _ _) rfl rfl rfl
              refine Steps_cons ?_ ?_
              · intro w5 hB5
                refine DepsK_cons rfl rfl ?_
                rintro _ _ ⟨rfl, rfl⟩
                refine DepsK_cons rfl rfl ?_
                rintro v3 _ rfl
                refine DepsK_cons rfl rfl ?_
                rintro v4 _ rfl
                refine DepsK_nil ?_
                refine WL_guard_skip rfl rfl (by simp) rfl ?_
                refine WL_nil ?_
                exact Fin1_val (Below.refl _ _) rfl rfl rfl
              refine Steps_cons ?_ ?_
              · intro w5 hB5
                refine DepsK_cons rfl rfl ?_
                rintro _ _ ⟨rfl, rfl⟩
                refine DepsK_cons rfl rfl ?_
                rintro v5 _ rfl
                refine DepsK_nil ?_
                refine WL_guard_skip rfl rfl (by simp) rfl ?_
                refine WL_nil ?_
                exact Fin1_val (Below.refl _ _) rfl rfl rfl
              refine Steps_cons ?_ ?_
              · intro w5 hB5
                refine DepsK_cons rfl rfl ?_
                rintro _ _ ⟨rfl, rfl⟩
                refine DepsK_nil ?_
                refine WL_guard_skip rfl rfl (by simp) rfl ?_
                refine WL_nil ?_
                exact Fin1_val (Below.refl _ _) rfl rfl rfl
              refine Steps_cons ?_ ?_
              · intro w5 hB5
                refine DepsK_cons rfl rfl ?_
                rintro _ _ ⟨rfl, rfl⟩
                refine DepsK_nil ?_
                refine WL_guard_skip rfl rfl (by simp) rfl ?_
                refine WL_nil ?_
                exact Fin1_val (Below.refl _ _) rfl rfl rfl
              refine Steps_cons ?_ ?_
              · intro w5 hB5
                refine DepsK_cons rfl rfl ?_
                rintro _ _ ⟨rfl, rfl⟩
                refine DepsK_cons rfl rfl ?_
                rintro v8 _ rfl
                refine DepsK_nil ?_
                refine WL_guard_skip rfl rfl (by simp) rfl ?_
                refine WL_nil ?_
                exact Fin1_val (Below.refl _ _) rfl rfl rfl
              refine Steps_cons ?_ ?_
              · intro w5 hB5
                refine DepsK_cons rfl rfl ?_
                rintro _ _ ⟨rfl, rfl⟩
                refine DepsK_cons rfl rfl ?_
                rintro v7 _ rfl
                refine DepsK_cons rfl rfl ?_
                rintro v9 _ rfl
                refine DepsK_nil ?_
                refine WL_guard_skip rfl rfl (by simp) rfl ?_
                refine WL_nil ?_
                exact Fin1_val (Below.refl _ _) rfl rfl rfl
              refine Steps_cons ?_ ?_
              · intro w5 hB5
                refine DepsK_cons rfl rfl ?_
                rintro _ _ ⟨rfl, rfl⟩
                refine DepsK_cons rfl rfl ?_
                rintro v10 _ rfl
                refine DepsK_nil ?_
                refine WL_guard_skip rfl rfl (by simp) rfl ?_
                refine WL_nil ?_
                exact Fin1_val (Below.refl _ _) rfl rfl rfl
              exact Steps_nil
            · intro w6 hB6
              refine AllK_cons rfl ?_
              rintro _ _ ⟨rfl, rfl⟩
              refine AllK_cons rfl ?_
              rintro _ _ ⟨rfl, rfl⟩
              refine AllK_cons rfl ?_
              rintro _ _ ⟨rfl, rfl⟩
              refine AllK_cons rfl ?_
              rintro v3 _ rfl
              refine AllK_cons rfl ?_
              rintro v4 _ rfl
              refine AllK_cons rfl ?_
              rintro v5 _ rfl
              refine AllK_cons rfl ?_
              rintro v6 _ rfl
              refine AllK_cons rfl ?_
              rintro v7 _ rfl
              refine AllK_cons rfl ?_
              rintro v8 _ rfl
              refine AllK_cons rfl ?_
              rintro v9 _ rfl
              refine AllK_cons rfl ?_
              rintro v10 _ rfl
              refine AllK_cons rfl ?_
              rintro v11 _ rfl
              refine AllK_nil ?_
              intro hn2 hb2
              have hC4 := hC1.grow hB6
              refine WL_guard_skip rfl rfl (by simp) rfl ?_
              refine WL_pick_f rfl rfl rfl ?_
              refine WL_nil ?_
              have hq2 := Option.some.inj hr2
              subst hq2
              refine nrm_sub (l' := [(0, u1), (5, (.int .i64 (List.length a1 : Int))), (6, (.int .i64 x1)), (22, (.bool false))]) ⟨rfl, rfl, rfl, rfl, trivial⟩ ?_
              exact ⟨false, rfl, rfl, (Keep.of hB6).below, hC4⟩
        · rintro _ w2 ⟨x2, rfl, rfl, hB2, hC2⟩
          try dsimp only at hL1
          refine W_cond rfl (fun hc3 => ?_) (fun hc3 => ?_)
          · replace hL1 := ite_t hL1 hc3
            refine W_seq_reg ?_
            refine WL_assign rfl rfl ?_
            refine WL_nil ?_
            refine W_ret ?_
            refine blk_ret ?_
            refine nrm_ret ?_
            refine nrm_ret ?_
            refine blk_ret ?_
            refine nrm_ret ?_
            refine nrm_ret ?_
            have hq3 := Option.some.inj hL1
            subst hq3
            dsimp only at hF
            have hq4 := Option.some.inj hF
            subst hq4
            refine fn_ret1 rfl rfl ?_
            exact ⟨_, rfl, bool_res hC2 _⟩
          · replace hL1 := ite_f hL1 hc3
            refine W_skip ?_
            refine blk_normal ?_
            refine nrm_normal ?_
            refine W_reg ?_
            refine WL_add rfl rfl rfl ?_
            refine WL_move rfl rfl ?_
            refine WL_nil ?_
            refine nrm_sub (l' := [(0, u1), (5, (.int .i64 (List.length a1 : Int))), (6, (.int .i64 (w64 (x1 + 1))))]) ⟨rfl, rfl, rfl, trivial⟩ ?_
            exact ⟨k1, Nat.lt_succ_self _, w64 (x1 + 1), rfl, ((Keep.of hB1).then hB2).below, hC2, hL1⟩
      · replace hL1 := ite_f hL1 hc1
        refine W_exit ?_
        refine nrm_exit ?_
        refine nrm_exit ?_
        refine blk_exit ?_
        have hq5 := Option.some.inj hL1
        subst hq5
        refine nrm_sub (l' := []) trivial ?_
        exact ⟨rfl, rfl, (Keep.of hB1).below, hC1⟩
  · rintro l3 _ w7 hs3 ⟨rfl, rfl, hB7, hC5⟩
    try dsimp only at hF
    refine nrm_sub' hs3 ?_
    clear hs3
    refine W_seq_reg ?_
    refine WL_assign rfl rfl ?_
    refine WL_nil ?_
    refine W_ret ?_
    have hq6 := Option.some.inj hF
    subst hq6
    refine fn_ret1 rfl rfl ?_
    exact ⟨_, rfl, bool_res hC5 _⟩

theorem c_M_isKey {w0 : World} (a1 : Int) (rr : Bool) (hF : M.isKey a1 = some rr) :
    Calls Try.prog 83 [(.int .i64 a1)].toArray w0 fun e w' => ∃ v, e = .returned v ∧ Res w0 rr v w' := by
  refine calls_of_W Try.func83 rfl rfl ?_
  have hC0 := Ctx.start w0
  unfold M.isKey at hF
  refine W_seq_reg ?_
  refine WL_assign rfl rfl ?_
  refine WL_nil ?_
  refine W_seq_reg ?_
  refine WL_move rfl rfl ?_
  obtain ⟨x1, hr1, hF⟩ := bind_some hF
  refine WL_call Try.call84 rfl rfl (c_M_within a1 0 1000000 x1 hr1) ?_
  intro _ w1 hv1
  obtain ⟨rfl, hB1⟩ := res_bool hv1
  have hC1 := hC0.grow hB1
  refine WL_assign rfl rfl ?_
  refine WL_nil ?_
  refine W_ret ?_
  have hq1 := Option.some.inj hF
  subst hq1
  refine fn_ret1 rfl rfl ?_
  exact ⟨_, rfl, bool_res hC1 _⟩

theorem c_M_IsLedger_c1 {w0 : World} (a1 : Int) (rr : Bool) (hF : M.IsLedger_c1 a1 = some rr) :
    Calls Try.prog 82 [(.int .i64 a1)].toArray w0 fun e w' => ∃ v, e = .returned v ∧ Res w0 rr v w' := by
  refine calls_of_W Try.func82 rfl rfl ?_
  have hC0 := Ctx.start w0
  unfold M.IsLedger_c1 at hF
  refine W_seq_reg ?_
  refine WL_assign rfl rfl ?_
  refine WL_nil ?_
  refine W_seq_reg ?_
  refine WL_move rfl rfl ?_
  obtain ⟨x1, hr1, hF⟩ := bind_some hF
  refine WL_call Try.call83 rfl rfl (c_M_isKey a1 x1 hr1) ?_
  intro _ w1 hv1
  obtain ⟨rfl, hB1⟩ := res_bool hv1
  have hC1 := hC0.grow hB1
  refine WL_not rfl rfl ?_
  refine WL_assign rfl rfl ?_
  refine WL_nil ?_
  refine W_ret ?_
  have hq1 := Option.some.inj hF
  subst hq1
  refine fn_ret1 rfl rfl ?_
  exact ⟨_, rfl, bool_res hC1 _⟩

theorem c_Q_eqIntS {w0 : World} (a1 : (List Int)) (u1 : Value) (g1 : RO [] w0 u1 a1) (a2 : (List Int)) (u2 : Value) (g2 : RO [] w0 u2 a2) (rr : Bool) (hF : Q.eqIntS a1 a2 = some rr) :
    Calls Try.prog 30 [u1, u2].toArray w0 fun e w' => ∃ v, e = .returned v ∧ Res w0 rr v w' := by
  refine calls_of_W Try.func30 rfl rfl ?_
  have hC0 := Ctx.start w0
  unfold Q.eqIntS at hF
  refine W_seq_reg ?_
  refine WL_assign rfl rfl ?_
  refine WL_nil ?_
  refine W_seq ?_
  refine W_seq_reg ?_
  refine WL_move rfl rfl ?_
  refine WL_len Try.underlying27 g1 rfl rfl ?_
  refine WL_move rfl rfl ?_
  refine WL_len Try.underlying27 g2 rfl rfl ?_
  refine WL_neq rfl rfl rfl ?_
  refine WL_nil ?_
  refine W_cond rfl (fun hc1 => ?_) (fun hc1 => ?_)
  · replace hF := ite_t hF hc1
    refine W_seq_reg ?_
    refine WL_assign rfl rfl ?_
    refine WL_nil ?_
    refine W_ret ?_
    refine nrm_ret ?_
    have hq1 := Option.some.inj hF
    subst hq1
    refine fn_ret1 rfl rfl ?_
    exact ⟨_, rfl, bool_res hC0 _⟩
  · replace hF := ite_f hF hc1
    refine W_skip ?_
    refine nrm_normal ?_
    refine W_seq ?_
    refine W_seq_reg ?_
    refine WL_assign rfl rfl ?_
    refine WL_nil ?_
    obtain ⟨r1, hr1, hF⟩ := bind_some hF
    refine W_norm (fun l w => .inl () = r1 ∧ l = [] ∧ Below w0.heap.size w0 w ∧ Ctx [] w0 w []) ?_ ?_
    · refine W_block ?_
      refine W.sub (l' := [(0, u1), (1, u2), (5, (.int .i64 0))]) ?_ ⟨rfl, rfl, rfl, trivial⟩
      refine W_loop (fun k l w => ∃ x1 : Int, l = [(0, u1), (1, u2), (5, (.int .i64 x1))] ∧ Below w0.heap.size w0 w ∧ Ctx [] w0 w [] ∧ Q.eqIntS_l1 a1 a2 k x1 = some r1) FUEL ⟨0, rfl, (Below.refl _ _), hC0, hr1⟩ ?_
      clear hr1
      rintro k1 _ w1 ⟨x1, rfl, hB1, hC1, hL1⟩
      cases k1 with
      | zero => rw [Q.eqIntS_l1] at hL1; cases hL1
      | succ k1 =>
        rw [Q.eqIntS_l1] at hL1
        refine W_seq ?_
        refine W_seq_reg ?_
        refine WL_move rfl rfl ?_
        refine WL_move rfl rfl ?_
        refine WL_len Try.underlying27 g1 rfl rfl ?_
        refine WL_lss rfl rfl rfl ?_
        refine WL_nil ?_
        refine W_cond rfl (fun hc2 => ?_) (fun hc2 => ?_)
        · replace hL1 := ite_t hL1 hc2
          refine W_skip ?_
          refine nrm_normal ?_
          refine W_seq ?_
          refine W_block ?_
          refine W_seq ?_
          obtain ⟨x2, hx1, hL1⟩ := bind_some hL1
          obtain ⟨x3, hx2, hL1⟩ := bind_some hL1
          refine W.sub (l' := [(0, u1), (1, u2), (5, (.int .i64 x1)), (11, (.int .i64 x1)), (12, u1), (13, (.int .i64 (List.length a1 : Int))), (14, (.bool (decide (x1 < (List.length a1 : Int)))))]) ?_ ⟨rfl, rfl, rfl, rfl, rfl, rfl, rfl, trivial⟩
          refine W_any 8 [PV.val u1, PV.val (.int .i64 x1), PV.at [] w0 x2, PV.val (.int .i64 x2), PV.val u2, PV.val (.int .i64 x1), PV.at [] w0 x3, PV.val (.int .i64 x3)] [[], [], [0, 1], [2], [], [], [4, 5], [6]] hmix (by kernel_rfl) rfl ?_ ?_
          · refine Steps_cons ?_ ?_
            · intro w2 hB2
              refine DepsK_nil ?_
              refine WL_move rfl rfl ?_
              refine WL_nil ?_
              exact Fin1_val (Below.refl _ _) rfl rfl ⟨rfl, rfl⟩
            refine Steps_cons ?_ ?_
            · intro w2 hB2
              refine DepsK_nil ?_
              refine WL_move rfl rfl ?_
              refine WL_nil ?_
              exact Fin1_val (Below.refl _ _) rfl rfl ⟨rfl, rfl⟩
            refine Steps_cons ?_ ?_
            · intro w2 hB2
              refine DepsK_cons rfl rfl ?_
              rintro _ _ ⟨rfl, rfl⟩
              refine DepsK_cons rfl rfl ?_
              rintro _ _ ⟨rfl, rfl⟩
              refine DepsK_nil ?_
              refine WL_index Try.underlying27 ty3 g1 hx1 rfl rfl rfl (fun b1 o1 h1 => ?_)
              refine WL_nil ?_
              exact Fin1_val (Below.refl _ _) rfl rfl ⟨rfl, _, _, rfl, h1⟩
            refine Steps_cons ?_ ?_
            · intro w2 hB2
              refine DepsK_cons rfl rfl ?_
              rintro _ _ ⟨rfl, b1, o1, rfl, h1⟩
              refine DepsK_nil ?_
              refine WL_load ty3 h1 (hC1.keep.then hB2) rfl rfl (fun v1 h2 => ?_)
              obtain rfl := ro_int h2
              refine WL_nil ?_
              exact Fin1_val (Below.refl _ _) rfl rfl ⟨rfl, rfl⟩
            refine Steps_cons ?_ ?_
            · intro w2 hB2
              refine DepsK_nil ?_
              refine WL_move rfl rfl ?_
              refine WL_nil ?_
              exact Fin1_val (Below.refl _ _) rfl rfl ⟨rfl, rfl⟩
            refine Steps_cons ?_ ?_
            · intro w2 hB2
              refine DepsK_nil ?_
              refine WL_move rfl rfl ?_
              refine WL_nil ?_
              exact Fin1_val (Below.refl _ _) rfl rfl ⟨rfl, rfl⟩
            refine Steps_cons ?_ ?_
            · intro w2 hB2
              refine DepsK_cons rfl rfl ?_
              rintro _ _ ⟨rfl, rfl⟩
              refine DepsK_cons rfl rfl ?_
              rintro _ _ ⟨rfl, rfl⟩
              refine DepsK_nil ?_
              refine WL_index Try.underlying27 ty3 g2 hx2 rfl rfl rfl (fun b2 o2 h3 => ?_)
              refine WL_nil ?_
              exact Fin1_val (Below.refl _ _) rfl rfl ⟨rfl, _, _, rfl, h3⟩
            refine Steps_cons ?_ ?_
            · intro w2 hB2
              refine DepsK_cons rfl rfl ?_
              rintro _ _ ⟨rfl, b2, o2, rfl, h3⟩
              refine DepsK_nil ?_
              refine WL_load ty3 h3 (hC1.keep.then hB2) rfl rfl (fun v2 h4 => ?_)
              obtain rfl := ro_int h4
              refine WL_nil ?_
              exact Fin1_val (Below.refl _ _) rfl rfl ⟨rfl, rfl⟩
            exact Steps_nil
          · intro w3 hB3
            refine AllK_cons rfl ?_
            rintro _ _ ⟨rfl, rfl⟩
            refine AllK_cons rfl ?_
            rintro _ _ ⟨rfl, rfl⟩
            refine AllK_cons rfl ?_
            rintro _ _ ⟨rfl, b1, o1, rfl, h1⟩
            refine AllK_cons rfl ?_
            rintro _ _ ⟨rfl, rfl⟩
            refine AllK_cons rfl ?_
            rintro _ _ ⟨rfl, rfl⟩
            refine AllK_cons rfl ?_
            rintro _ _ ⟨rfl, rfl⟩
            refine AllK_cons rfl ?_
            rintro _ _ ⟨rfl, b2, o2, rfl, h3⟩
            refine AllK_cons rfl ?_
            rintro _ _ ⟨rfl, rfl⟩
            refine AllK_nil ?_
            intro hn1 hb1
            have hC2 := hC1.grow hB3
            refine WL_neq rfl rfl rfl ?_
            refine WL_nil ?_
            refine nrm_normal ?_
            refine W_cond rfl (fun hc3 => ?_) (fun hc3 => ?_)
            · replace hL1 := ite_t hL1 hc3
              refine W_seq_reg ?_
              refine WL_assign rfl rfl ?_
              refine WL_nil ?_
              refine W_ret ?_
              refine blk_ret ?_
              refine nrm_ret ?_
              refine nrm_ret ?_
              refine blk_ret ?_
              refine nrm_ret ?_
              refine nrm_ret ?_
              have hq2 := Option.some.inj hL1
              subst hq2
              dsimp only at hF
              have hq3 := Option.some.inj hF
              subst hq3
              refine fn_ret1 rfl rfl ?_
              exact ⟨_, rfl, bool_res hC2 _⟩
            · replace hL1 := ite_f hL1 hc3
              refine W_skip ?_
              refine blk_normal ?_
              refine nrm_normal ?_
              refine W_reg ?_
              refine WL_move rfl rfl ?_
              refine WL_add rfl rfl rfl ?_
              refine WL_assign rfl rfl ?_
              refine WL_nil ?_
              refine nrm_sub (l' := [(0, u1), (1, u2), (5, (.int .i64 (w64 (x1 + 1))))]) ⟨rfl, rfl, rfl, trivial⟩ ?_
              exact ⟨k1, Nat.lt_succ_self _, w64 (x1 + 1), rfl, ((Keep.of hB1).then hB3).below, hC2, hL1⟩
        · replace hL1 := ite_f hL1 hc2
          refine W_exit ?_
          refine nrm_exit ?_
          refine nrm_exit ?_
          refine blk_exit ?_
          have hq4 := Option.some.inj hL1
          subst hq4
          refine nrm_sub (l' := []) trivial ?_
          exact ⟨rfl, rfl, (Keep.of hB1).below, hC1⟩
    · rintro l2 _ w4 hs2 ⟨rfl, rfl, hB4, hC3⟩
      try dsimp only at hF
      refine nrm_sub' hs2 ?_
      clear hs2
      refine W_seq_reg ?_
      refine WL_assign rfl rfl ?_
      refine WL_nil ?_
      refine W_ret ?_
      have hq5 := Option.some.inj hF
      subst hq5
      refine fn_ret1 rfl rfl ?_
      exact ⟨_, rfl, bool_res hC3 _⟩

theorem c_Q_eqLedger {w0 : World} (a1 : ((List Int) × Int × Int)) (u1 : Value) (g1 : RO [] w0 u1 a1.1) (a2 : ((List Int) × Int × Int)) (u2 : Value) (g2 : RO [] w0 u2 a2.1) (rr : Bool) (hF : Q.eqLedger a1 a2 = some rr) :
    Calls Try.prog 25 [(.agg #[u1, (.int .i64 a1.2.1), (.int .i64 a1.2.2)]), (.agg #[u2, (.int .i64 a2.2.1), (.int .i64 a2.2.2)])].toArray w0 fun e w' => ∃ v, e = .returned v ∧ Res w0 rr v w' := by
  refine calls_of_W Try.func25 rfl rfl ?_
  have hC0 := Ctx.start w0
  unfold Q.eqLedger at hF
  refine W_seq_reg ?_
  refine WL_box (cs := [u1, (.int .i64 a1.2.1), (.int .i64 a1.2.2)]) hC0 rfl rfl rfl (fun b1 w1 hC1 hB1 => ?_)
  refine WL_box (cs := [u2, (.int .i64 a2.2.1), (.int .i64 a2.2.2)]) hC1 rfl rfl rfl (fun b2 w2 hC2 hB2 => ?_)
  refine WL_assign rfl rfl ?_
  refine WL_nil ?_
  refine W_seq ?_
  refine W_seq_reg ?_
  refine WL_field Try.underlying32 rfl rfl (fun w => ⟨_, Try.sizeOf27 w⟩) rfl rfl ?_
  refine WL_load_box hC2 1 rfl rfl Try.isAgg27 rfl rfl ?_
  refine WL_field Try.underlying32 rfl rfl (fun w => ⟨_, Try.sizeOf27 w⟩) rfl rfl ?_
  refine WL_load_box hC2 0 rfl rfl Try.isAgg27 rfl rfl ?_
  obtain ⟨x1, hr1, hF⟩ := bind_some hF
  refine WL_call Try.call30 rfl rfl (c_Q_eqIntS a1.1 u1 (g1.now hC2.keep) a2.1 u2 (g2.now hC2.keep) x1 hr1) ?_
  intro _ w3 hv1
  obtain ⟨rfl, hB3⟩ := res_bool hv1
  have hC3 := hC2.grow hB3
  refine WL_not rfl rfl ?_
  refine WL_nil ?_
  refine W_cond rfl (fun hc1 => ?_) (fun hc1 => ?_)
  · replace hF := ite_t hF hc1
    refine W_seq_reg ?_
    refine WL_assign rfl rfl ?_
    refine WL_nil ?_
    refine W_ret ?_
    refine nrm_ret ?_
    have hq1 := Option.some.inj hF
    subst hq1
    refine fn_ret1 rfl rfl ?_
    exact ⟨_, rfl, bool_res hC3 _⟩
  · replace hF := ite_f hF hc1
    refine W_skip ?_
    refine nrm_normal ?_
    refine W_seq ?_
    refine W_seq_reg ?_
    refine WL_field Try.underlying32 rfl rfl (fun w => ⟨_, Try.sizeOf3 w⟩) rfl rfl ?_
    refine WL_load_box hC3 1 rfl rfl Try.isAgg3 rfl rfl ?_
    refine WL_field Try.underlying32 rfl rfl (fun w => ⟨_, Try.sizeOf3 w⟩) rfl rfl ?_
    refine WL_load_box hC3 0 rfl rfl Try.isAgg3 rfl rfl ?_
    refine WL_neq rfl rfl rfl ?_
    refine WL_nil ?_
    refine W_cond rfl (fun hc2 => ?_) (fun hc2 => ?_)
    · replace hF := ite_t hF hc2
      refine W_seq_reg ?_
      refine WL_assign rfl rfl ?_
      refine WL_nil ?_
      refine W_ret ?_
      refine nrm_ret ?_
      have hq2 := Option.some.inj hF
      subst hq2
      refine fn_ret1 rfl rfl ?_
      exact ⟨_, rfl, bool_res hC3 _⟩
    · replace hF := ite_f hF hc2
      refine W_skip ?_
      refine nrm_normal ?_
      refine W_seq ?_
      refine W_seq_reg ?_
      refine WL_field Try.underlying32 rfl rfl (fun w => ⟨_, Try.sizeOf3 w⟩) rfl rfl ?_
      refine WL_load_box hC3 1 rfl rfl Try.isAgg3 rfl rfl ?_
      refine WL_field Try.underlying32 rfl rfl (fun w => ⟨_, Try.sizeOf3 w⟩) rfl rfl ?_
      refine WL_load_box hC3 0 rfl rfl Try.isAgg3 rfl rfl ?_
      refine WL_neq rfl rfl rfl ?_
      refine WL_nil ?_
      refine W_cond rfl (fun hc3 => ?_) (fun hc3 => ?_)
      · replace hF := ite_t hF hc3
        refine W_seq_reg ?_
        refine WL_assign rfl rfl ?_
        refine WL_nil ?_
        refine W_ret ?_
        refine nrm_ret ?_
        have hq3 := Option.some.inj hF
        subst hq3
        refine fn_ret1 rfl rfl ?_
        exact ⟨_, rfl, bool_res hC3 _⟩
      · replace hF := ite_f hF hc3
        refine W_skip ?_
        refine nrm_normal ?_
        refine W_seq_reg ?_
        refine WL_assign rfl rfl ?_
        refine WL_nil ?_
        refine W_ret ?_
        have hq4 := Option.some.inj hF
        subst hq4
        refine fn_ret1 rfl rfl ?_
        exact ⟨_, rfl, bool_res hC3 _⟩

theorem c_S_CallsIn {w0 : World} (a1 : (List Int)) (u1 : Value) (g1 : RO [] w0 u1 a1) (a2 : Int) (a3 : Int) (rr : Int) (hF : S.CallsIn a1 a2 a3 = some rr) :
    Calls Try.prog 57 [u1, (.int .i64 a2), (.int .i64 a3)].toArray w0 fun e w' => ∃ v, e = .returned v ∧ Res w0 rr v w' := by
  refine calls_of_W Try.func57 rfl rfl ?_
  have hC0 := Ctx.start w0
  unfold S.CallsIn at hF
  refine W_seq_reg ?_
  refine WL_assign rfl rfl ?_
  refine WL_nil ?_
  refine W_seq_reg ?_
  refine WL_assign rfl rfl ?_
  refine WL_nil ?_
  refine W_seq ?_
  refine W_seq_reg ?_
  refine WL_assign rfl rfl ?_
  refine WL_nil ?_
  obtain ⟨r1, hr1, hF⟩ := bind_some hF
  refine W_norm (fun l w => ∃ x3 : Int, x3 = r1 ∧ l = [(7, (.int .i64 x3))] ∧ Below w0.heap.size w0 w ∧ Ctx [] w0 w []) ?_ ?_
  · refine W_block ?_
    refine W.sub (l' := [(0, u1), (1, (.int .i64 a2)), (2, (.int .i64 a3)), (7, (.int .i64 0)), (8, (.int .i64 0))]) ?_ ⟨rfl, rfl, rfl, rfl, rfl, trivial⟩
    refine W_loop (fun k l w => ∃ x1 : Int, ∃ x2 : Int, l = [(0, u1), (1, (.int .i64 a2)), (2, (.int .i64 a3)), (7, (.int .i64 x1)), (8, (.int .i64 x2))] ∧ Below w0.heap.size w0 w ∧ Ctx [] w0 w [] ∧ S.CallsIn_l1 a1 a2 a3 k x1 x2 = some r1) FUEL ⟨0, 0, rfl, (Below.refl _ _), hC0, hr1⟩ ?_
    clear hr1
    rintro k1 _ w1 ⟨x1, x2, rfl, hB1, hC1, hL1⟩
    cases k1 with
    | zero => rw [S.CallsIn_l1] at hL1; cases hL1
    | succ k1 =>
      rw [S.CallsIn_l1] at hL1
      refine W_seq ?_
      refine W_seq_reg ?_
      refine WL_move rfl rfl ?_
      refine WL_move rfl rfl ?_
      refine WL_len Try.underlying27 g1 rfl rfl ?_
      refine WL_lss rfl rfl rfl ?_
      refine WL_nil ?_
      refine W_cond rfl (fun hc1 => ?_) (fun hc1 => ?_)
      · replace hL1 := ite_t hL1 hc1
        refine W_skip ?_
        refine nrm_normal ?_
        refine W_seq ?_
        refine W_block ?_
        obtain ⟨r2, hr2, hL1⟩ := bind_some hL1
        refine W_cut (fun l w => ∃ x4 : Bool, x4 = r2 ∧ l = [(0, u1), (1, (.int .i64 a2)), (2, (.int .i64 a3)), (7, (.int .i64 x1)), (8, (.int .i64 x2)), (41, (.bool x4))] ∧ Below w1.heap.size w1 w ∧ Ctx [] w0 w []) ?_ ?_
        · refine W_reg ?_
          refine WL_move rfl rfl ?_
          refine WL_move rfl rfl ?_
          obtain ⟨x5, hx1, hr2⟩ := bind_some hr2
          refine WL_index Try.underlying27 ty3 g1 hx1 rfl rfl rfl (fun b1 o1 h1 => ?_)
          refine WL_load ty3 h1 hC1.keep rfl rfl (fun v1 h2 => ?_)
          obtain rfl := ro_int h2
          refine WL_move rfl rfl ?_
          refine WL_geq rfl rfl rfl ?_
          refine WL_move rfl rfl ?_
          refine WL_fork (fun hc2 => ?_) (fun hc2 => ?_)
          · replace hr2 := ite_t hr2 hc2
            refine WL_guard rfl rfl ?_
            refine WL_move rfl rfl ?_
            refine WL_guard rfl rfl ?_
            refine WL_move rfl rfl ?_
            obtain ⟨x6, hx2, hr2⟩ := bind_some hr2
            refine WL_guard rfl rfl ?_
            refine WL_index Try.underlying27 ty3 g1 hx2 rfl rfl rfl (fun b2 o2 h3 => ?_)
            refine WL_guard rfl rfl ?_
            refine WL_load ty3 h3 hC1.keep rfl rfl (fun v2 h4 => ?_)
            obtain rfl := ro_int h4
            refine WL_guard rfl rfl ?_
            refine WL_move rfl rfl ?_
            refine WL_guard rfl rfl ?_
            refine WL_sub rfl rfl rfl ?_
            refine WL_guard rfl rfl ?_
            refine WL_move rfl rfl ?_
            refine WL_guard rfl rfl ?_
            refine WL_lss rfl rfl rfl ?_
            refine WL_pick_t rfl rfl rfl ?_
            refine WL_move rfl rfl ?_
            refine WL_fork (fun hc3 => ?_) (fun hc3 => ?_)
            · replace hr2 := ite_t hr2 hc3
              refine WL_guard rfl rfl ?_
              refine WL_move rfl rfl ?_
              refine WL_guard rfl rfl ?_
              refine WL_move rfl rfl ?_
              obtain ⟨x7, hx3, hr2⟩ := bind_some hr2
              refine WL_guard rfl rfl ?_
              refine WL_index Try.underlying27 ty3 g1 hx3 rfl rfl rfl (fun b3 o3 h5 => ?_)
              refine WL_guard rfl rfl ?_
              refine WL_load ty3 h5 hC1.keep rfl rfl (fun v3 h6 => ?_)
              obtain rfl := ro_int h6
              refine WL_guard rfl rfl ?_
              refine WL_geq rfl rfl rfl ?_
              refine WL_pick_t rfl rfl rfl ?_
              refine WL_move rfl rfl ?_
              refine WL_fork (fun hc4 => ?_) (fun hc4 => ?_)
              · replace hr2 := ite_t hr2 hc4
                refine WL_guard rfl rfl ?_
                refine WL_move rfl rfl ?_
                refine WL_guard rfl rfl ?_
                refine WL_geq rfl rfl rfl ?_
                refine WL_pick_t rfl rfl rfl ?_
                refine WL_nil ?_
                have hq1 := Option.some.inj hr2
                subst hq1
                refine nrm_sub (l' := [(0, u1), (1, (.int .i64 a2)), (2, (.int .i64 a3)), (7, (.int .i64 x1)), (8, (.int .i64 x2)), (41, (.bool (decide (0 ≤ a2))))]) ⟨rfl, rfl, rfl, rfl, rfl, rfl, trivial⟩ ?_
                exact ⟨(decide (0 ≤ a2)), rfl, rfl, (Below.refl _ _), hC1⟩
              · replace hr2 := ite_f hr2 hc4
                refine WL_guard_skip rfl rfl (by simp) rfl ?_
                refine WL_guard_skip rfl rfl (by simp) rfl ?_
                refine WL_pick_f rfl rfl rfl ?_
                refine WL_nil ?_
                have hq2 := Option.some.inj hr2
                subst hq2
                refine nrm_sub (l' := [(0, u1), (1, (.int .i64 a2)), (2, (.int .i64 a3)), (7, (.int .i64 x1)), (8, (.int .i64 x2)), (41, (.bool false))]) ⟨rfl, rfl, rfl, rfl, rfl, rfl, trivial⟩ ?_
                exact ⟨false, rfl, rfl, (Below.refl _ _), hC1⟩
            · replace hr2 := ite_f hr2 hc3
              refine WL_guard_skip rfl rfl (by simp) rfl ?_
              refine WL_guard_skip rfl rfl (by simp) rfl ?_
              refine WL_guard_skip rfl rfl (by simp) rfl ?_
              refine WL_guard_skip rfl rfl (by simp) rfl ?_
              refine WL_guard_skip rfl rfl (by simp) rfl ?_
              refine WL_pick_f rfl rfl rfl ?_
              refine WL_move rfl rfl ?_
              refine WL_guard_skip rfl rfl (by simp) rfl ?_
              refine WL_guard_skip rfl rfl (by simp) rfl ?_
              refine WL_pick_f rfl rfl rfl ?_
              refine WL_nil ?_
              have hq3 := Option.some.inj hr2
              subst hq3
              refine nrm_sub (l' := [(0, u1), (1, (.int .i64 a2)), (2, (.int .i64 a3)), (7, (.int .i64 x1)), (8, (.int .i64 x2)), (41, (.bool false))]) ⟨rfl, rfl, rfl, rfl, rfl, rfl, trivial⟩ ?_
              exact ⟨false, rfl, rfl, (Below.refl _ _), hC1⟩
          · replace hr2 := ite_f hr2 hc2
            refine WL_guard_skip rfl rfl (by simp) rfl ?_
            refine WL_guard_skip rfl rfl (by simp) rfl ?_
            refine WL_guard_skip rfl rfl (by simp) rfl ?_
            refine WL_guard_skip rfl rfl (by simp) rfl ?_
            refine WL_guard_skip rfl rfl (by simp) rfl ?_
            refine WL_guard_skip rfl rfl (by simp) rfl ?_
            refine WL_guard_skip rfl rfl (by simp) rfl ?_
            refine WL_guard_skip rfl rfl (by simp) rfl ?_
            refine WL_pick_f rfl rfl rfl ?_
            refine WL_move rfl rfl ?_
            refine WL_guard_skip rfl rfl (by simp) rfl ?_
            refine WL_guard_skip rfl rfl (by simp) rfl ?_
            refine WL_guard_skip rfl rfl (by simp) rfl ?_
            refine WL_guard_skip rfl rfl (by simp) rfl ?_
            refine WL_guard_skip rfl rfl (by simp) rfl ?_
            refine WL_pick_f rfl rfl rfl ?_
            refine WL_move rfl rfl ?_
            refine WL_guard_skip rfl rfl (by simp) rfl ?_
            refine WL_guard_skip rfl rfl (by simp) rfl ?_
            refine WL_pick_f rfl rfl rfl ?_
            refine WL_nil ?_
            have hq4 := Option.some.inj hr2
            subst hq4
            refine nrm_sub (l' := [(0, u1), (1, (.int .i64 a2)), (2, (.int .i64 a3)), (7, (.int .i64 x1)), (8, (.int .i64 x2)), (41, (.bool false))]) ⟨rfl, rfl, rfl, rfl, rfl, rfl, trivial⟩ ?_
            exact ⟨false, rfl, rfl, (Below.refl _ _), hC1⟩
        · rintro _ w2 ⟨x4, rfl, rfl, hB2, hC2⟩
          try dsimp only at hL1
          obtain ⟨r3, hr3, hL1⟩ := bind_some hL1
          refine W_norm (fun l w => ∃ x8 : Int, x8 = r3 ∧ l = [(0, u1), (1, (.int .i64 a2)), (2, (.int .i64 a3)), (7, (.int .i64 x8)), (8, (.int .i64 x2))] ∧ Below w2.heap.size w2 w ∧ Ctx [] w0 w []) ?_ ?_
          · refine W_cond rfl (fun hc5 => ?_) (fun hc5 => ?_)
            · replace hr3 := ite_t hr3 hc5
              refine W_reg ?_
              refine WL_move rfl rfl ?_
              refine WL_add rfl rfl rfl ?_
              refine WL_assign rfl rfl ?_
              refine WL_nil ?_
              have hq5 := Option.some.inj hr3
              subst hq5
              refine nrm_sub (l' := [(0, u1), (1, (.int .i64 a2)), (2, (.int .i64 a3)), (7, (.int .i64 (w64 (x1 + 1)))), (8, (.int .i64 x2))]) ⟨rfl, rfl, rfl, rfl, rfl, trivial⟩ ?_
              exact ⟨w64 (x1 + 1), rfl, rfl, (Below.refl _ _), hC2⟩
            · replace hr3 := ite_f hr3 hc5
              refine W_skip ?_
              have hq6 := Option.some.inj hr3
              subst hq6
              refine nrm_sub (l' := [(0, u1), (1, (.int .i64 a2)), (2, (.int .i64 a3)), (7, (.int .i64 x1)), (8, (.int .i64 x2))]) ⟨rfl, rfl, rfl, rfl, rfl, trivial⟩ ?_
              exact ⟨x1, rfl, rfl, (Below.refl _ _), hC2⟩
          · rintro l3 _ w3 hs3 ⟨x8, rfl, rfl, hB3, hC3⟩
            try dsimp only at hL1
            refine blk_normal ?_
            refine nrm_sub' hs3 ?_
            clear hs3
            refine W_reg ?_
            refine WL_move rfl rfl ?_
            refine WL_add rfl rfl rfl ?_
            refine WL_assign rfl rfl ?_
            refine WL_nil ?_
            refine nrm_sub (l' := [(0, u1), (1, (.int .i64 a2)), (2, (.int .i64 a3)), (7, (.int .i64 x8)), (8, (.int .i64 (w64 (x2 + 1))))]) ⟨rfl, rfl, rfl, rfl, rfl, trivial⟩ ?_
            exact ⟨k1, Nat.lt_succ_self _, x8, w64 (x2 + 1), rfl, (((Keep.of hB1).then hB2).then hB3).below, hC3, hL1⟩
      · replace hL1 := ite_f hL1 hc1
        refine W_exit ?_
        refine nrm_exit ?_
        refine nrm_exit ?_
        refine blk_exit ?_
        have hq7 := Option.some.inj hL1
        subst hq7
        refine nrm_sub (l' := [(7, (.int .i64 x1))]) ⟨rfl, trivial⟩ ?_
        exact ⟨x1, rfl, rfl, (Keep.of hB1).below, hC1⟩
  · rintro l4 _ w4 hs4 ⟨x3, rfl, rfl, hB4, hC4⟩
    try dsimp only at hF
    refine nrm_sub' hs4 ?_
    clear hs4
    refine W_seq_reg ?_
    refine WL_move rfl rfl ?_
    refine WL_assign rfl rfl ?_
    refine WL_nil ?_
    refine W_ret ?_
    have hq8 := Option.some.inj hF
    subst hq8
    refine fn_ret1 rfl rfl ?_
    exact ⟨_, rfl, int_res hC4 _⟩

theorem c_S_IsWindow {w0 : World} (a1 : (Int × Int)) (rr : Bool) (hF : S.IsWindow a1 = some rr) :
    Calls Try.prog 64 [(.agg #[(.int .i64 a1.1), (.int .i64 a1.2)])].toArray w0 fun e w' => ∃ v, e = .returned v ∧ Res w0 rr v w' := by
  refine calls_of_W Try.func64 rfl rfl ?_
  have hC0 := Ctx.start w0
  unfold S.IsWindow at hF
  refine W_seq_reg ?_
  refine WL_box (cs := [(.int .i64 a1.1), (.int .i64 a1.2)]) hC0 rfl rfl rfl (fun b1 w1 hC1 hB1 => ?_)
  refine WL_assign rfl rfl ?_
  refine WL_nil ?_
  obtain ⟨r1, hr1, hF⟩ := bind_some hF
  refine W_cut (fun l w => ∃ x1 : Bool, x1 = r1 ∧ l = [(2, (.bool x1))] ∧ Below w1.heap.size w1 w ∧ Ctx [] w0 w [Item.box b1 [(.int .i64 a1.1), (.int .i64 a1.2)]]) ?_ ?_
  · refine W_reg ?_
    refine WL_field Try.underlying41 rfl rfl (fun w => ⟨_, Try.sizeOf3 w⟩) rfl rfl ?_
    refine WL_load_box hC1 0 rfl rfl Try.isAgg3 rfl rfl ?_
    obtain ⟨x2, hr2, hr1⟩ := bind_some hr1
    refine WL_call Try.call79 rfl rfl (c_S_l1In a1.1 1 100 x2 hr2) ?_
    intro _ w3 hv1
    obtain ⟨rfl, hB3⟩ := res_bool hv1
    have hC3 := hC1.grow hB3
    refine WL_move rfl rfl ?_
    refine WL_fork (fun hc1 => ?_) (fun hc1 => ?_)
    · replace hr1 := ite_t hr1 hc1
      refine WL_guard rfl rfl ?_
      refine WL_field Try.underlying41 rfl rfl (fun w => ⟨_, Try.sizeOf3 w⟩) rfl rfl ?_
      refine WL_guard rfl rfl ?_
      refine WL_load_box hC3 0 rfl rfl Try.isAgg3 rfl rfl ?_
      obtain ⟨x3, hr3, hr1⟩ := bind_some hr1
      refine WL_guard rfl rfl ?_
      refine WL_call Try.call79 rfl rfl (c_S_l1In a1.2 1 99 x3 hr3) ?_
      intro _ w4 hv2
      obtain ⟨rfl, hB4⟩ := res_bool hv2
      have hC4 := hC3.grow hB4
      refine WL_pick_t rfl rfl rfl ?_
      refine WL_assign rfl rfl ?_
      refine WL_nil ?_
      have hq1 := Option.some.inj hr1
      subst hq1
      refine nrm_sub (l' := [(2, (.bool x3))]) ⟨rfl, trivial⟩ ?_
      exact ⟨x3, rfl, rfl, ((Keep.of hB3).then hB4).below, hC4⟩
    · replace hr1 := ite_f hr1 hc1
      refine WL_guard_skip rfl rfl (by simp) rfl ?_
      refine WL_guard_skip rfl rfl (by simp) rfl ?_
      refine WL_guard_skip rfl rfl (by simp) rfl ?_
      refine WL_pick_f rfl rfl rfl ?_
      refine WL_assign rfl rfl ?_
      refine WL_nil ?_
      have hq2 := Option.some.inj hr1
      subst hq2
      refine nrm_sub (l' := [(2, (.bool false))]) ⟨rfl, trivial⟩ ?_
      exact ⟨false, rfl, rfl, (Keep.of hB3).below, hC3⟩
  · rintro _ w2 ⟨x1, rfl, rfl, hB2, hC2⟩
    try dsimp only at hF
    refine W_ret ?_
    have hq3 := Option.some.inj hF
    subst hq3
    refine fn_ret1 rfl rfl ?_
    exact ⟨_, rfl, bool_res hC2 _⟩

theorem c_M_bit {w0 : World} (a1 : Bool) (rr : Int) (hF : M.bit a1 = some rr) :
    Calls Try.prog 104 [(.bool a1)].toArray w0 fun e w' => ∃ v, e = .returned v ∧ Res w0 rr v w' := by
  refine calls_of_W Try.func104 rfl rfl ?_
  have hC0 := Ctx.start w0
  unfold M.bit at hF
  refine W_seq_reg ?_
  refine WL_assign rfl rfl ?_
  refine WL_nil ?_
  refine W_seq ?_
  refine W_seq_reg ?_
  refine WL_move rfl rfl ?_
  refine WL_nil ?_
  refine W_cond rfl (fun hc1 => ?_) (fun hc1 => ?_)
  · replace hF := ite_t hF hc1
    refine W_seq_reg ?_
    refine WL_assign rfl rfl ?_
    refine WL_nil ?_
    refine W_ret ?_
    refine nrm_ret ?_
    have hq1 := Option.some.inj hF
    subst hq1
    refine fn_ret1 rfl rfl ?_
    exact ⟨_, rfl, int_res hC0 _⟩
  · replace hF := ite_f hF hc1
    refine W_skip ?_
    refine nrm_normal ?_
    refine W_seq_reg ?_
    refine WL_assign rfl rfl ?_
    refine WL_nil ?_
    refine W_ret ?_
    have hq2 := Option.some.inj hF
    subst hq2
    refine fn_ret1 rfl rfl ?_
    exact ⟨_, rfl, int_res hC0 _⟩

theorem c_M_CallsIn {w0 : World} (a1 : (List Int)) (u1 : Value) (g1 : RO [] w0 u1 a1) (a2 : Int) (a3 : Int) (rr : Int) (hF : M.CallsIn a1 a2 a3 = some rr) :
    Calls Try.prog 62 [u1, (.int .i64 a2), (.int .i64 a3)].toArray w0 fun e w' => ∃ v, e = .returned v ∧ Res w0 rr v w' := by
  refine calls_of_W Try.func62 rfl rfl ?_
  have hC0 := Ctx.start w0
  unfold M.CallsIn at hF
  refine W_seq_reg ?_
  refine WL_assign rfl rfl ?_
  refine WL_nil ?_
  refine W_seq_reg ?_
  refine WL_assign rfl rfl ?_
  refine WL_nil ?_
  refine W_seq ?_
  refine W_seq_reg ?_
  refine WL_move rfl rfl ?_
  refine WL_len Try.underlying27 g1 rfl rfl ?_
  refine WL_move rfl rfl ?_
  refine WL_nil ?_
  obtain ⟨r1, hr1, hF⟩ := bind_some hF
  refine W_norm (fun l w => ∃ x3 : Int, x3 = r1 ∧ l = [(7, (.int .i64 x3))] ∧ Below w0.heap.size w0 w ∧ Ctx [] w0 w []) ?_ ?_
  · refine W_block ?_
    refine W.sub (l' := [(1, (.int .i64 a2)), (2, (.int .i64 a3)), (7, (.int .i64 0)), (10, u1), (11, (.int .i64 (List.length a1 : Int))), (12, (.int .i64 0))]) ?_ ⟨rfl, rfl, rfl, rfl, rfl, rfl, trivial⟩
    refine W_loop (fun k l w => ∃ x1 : Int, ∃ x2 : Int, l = [(1, (.int .i64 a2)), (2, (.int .i64 a3)), (7, (.int .i64 x1)), (10, u1), (11, (.int .i64 (List.length a1 : Int))), (12, (.int .i64 x2))] ∧ Below w0.heap.size w0 w ∧ Ctx [] w0 w [] ∧ M.CallsIn_l1 a1 a2 a3 k x1 x2 = some r1) FUEL ⟨0, 0, rfl, (Below.refl _ _), hC0, hr1⟩ ?_
    clear hr1
    rintro k1 _ w1 ⟨x1, x2, rfl, hB1, hC1, hL1⟩
    cases k1 with
    | zero => rw [M.CallsIn_l1] at hL1; cases hL1
    | succ k1 =>
      rw [M.CallsIn_l1] at hL1
      refine W_seq_reg ?_
      refine WL_lss rfl rfl rfl ?_
      refine WL_nil ?_
      refine W_seq ?_
      refine W_cond rfl (fun hc1 => ?_) (fun hc1 => ?_)
      · replace hL1 := ite_t hL1 hc1
        refine W_skip ?_
        refine nrm_normal ?_
        refine W_seq ?_
        refine W_block ?_
        refine W_seq_reg ?_
        obtain ⟨x4, hx1, hL1⟩ := bind_some hL1
        refine WL_index Try.underlying27 ty3 g1 hx1 rfl rfl rfl (fun b1 o1 h1 => ?_)
        refine WL_load ty3 h1 hC1.keep rfl rfl (fun v1 h2 => ?_)
        obtain rfl := ro_int h2
        refine WL_assign rfl rfl ?_
        refine WL_nil ?_
        obtain ⟨r2, hr2, hL1⟩ := bind_some hL1
        refine W_norm (fun l w => ∃ x5 : Int, x5 = r2 ∧ l = [(1, (.int .i64 a2)), (2, (.int .i64 a3)), (7, (.int .i64 x5)), (10, u1), (11, (.int .i64 (List.length a1 : Int))), (12, (.int .i64 x2))] ∧ Below w1.heap.size w1 w ∧ Ctx [] w0 w []) ?_ ?_
        · refine W_reg ?_
          refine WL_move rfl rfl ?_
          refine WL_move rfl rfl ?_
          refine WL_geq rfl rfl rfl ?_
          refine WL_move rfl rfl ?_
          refine WL_fork (fun hc2 => ?_) (fun hc2 => ?_)
          · replace hr2 := ite_t hr2 hc2
            refine WL_guard rfl rfl ?_
            refine WL_move rfl rfl ?_
            refine WL_guard rfl rfl ?_
            refine WL_move rfl rfl ?_
            refine WL_guard rfl rfl ?_
            refine WL_geq rfl rfl rfl ?_
            refine WL_pick_t rfl rfl rfl ?_
            refine WL_move rfl rfl ?_
            refine WL_fork (fun hc3 => ?_) (fun hc3 => ?_)
            · replace hr2 := ite_t hr2 hc3
              refine WL_guard rfl rfl ?_
              refine WL_move rfl rfl ?_
              refine WL_guard rfl rfl ?_
              refine WL_move rfl rfl ?_
              refine WL_guard rfl rfl ?_
              refine WL_sub rfl rfl rfl ?_
              refine WL_guard rfl rfl ?_
              refine WL_move rfl rfl ?_
              refine WL_guard rfl rfl ?_
              refine WL_lss rfl rfl rfl ?_
              refine WL_pick_t rfl rfl rfl ?_
              obtain ⟨x6, hr3, hr2⟩ := bind_some hr2
              refine WL_call Try.call104 rfl rfl (c_M_bit (decide ((w64 (x4 - a2)) < a3)) x6 hr3) ?_
              intro _ w3 hv1
              obtain ⟨rfl, hB3⟩ := res_int hv1
              have hC3 := hC1.grow hB3
              refine WL_add rfl rfl rfl ?_
              refine WL_assign rfl rfl ?_
              refine WL_nil ?_
              have hq1 := Option.some.inj hr2
              subst hq1
              refine nrm_sub (l' := [(1, (.int .i64 a2)), (2, (.int .i64 a3)), (7, (.int .i64 (w64 (x1 + x6)))), (10, u1), (11, (.int .i64 (List.length a1 : Int))), (12, (.int .i64 x2))]) ⟨rfl, rfl, rfl, rfl, rfl, rfl, trivial⟩ ?_
              exact ⟨w64 (x1 + x6), rfl, rfl, (Keep.of hB3).below, hC3⟩
            · replace hr2 := ite_f hr2 hc3
              refine WL_guard_skip rfl rfl (by simp) rfl ?_
              refine WL_guard_skip rfl rfl (by simp) rfl ?_
              refine WL_guard_skip rfl rfl (by simp) rfl ?_
              refine WL_guard_skip rfl rfl (by simp) rfl ?_
              refine WL_guard_skip rfl rfl (by simp) rfl ?_
              refine WL_pick_f rfl rfl rfl ?_
              obtain ⟨x7, hr4, hr2⟩ := bind_some hr2
              refine WL_call Try.call104 rfl rfl (c_M_bit false x7 hr4) ?_
              intro _ w4 hv2
              obtain ⟨rfl, hB4⟩ := res_int hv2
              have hC4 := hC1.grow hB4
              refine WL_add rfl rfl rfl ?_
              refine WL_assign rfl rfl ?_
              refine WL_nil ?_
              have hq2 := Option.some.inj hr2
              subst hq2
              refine nrm_sub (l' := [(1, (.int .i64 a2)), (2, (.int .i64 a3)), (7, (.int .i64 (w64 (x1 + x7)))), (10, u1), (11, (.int .i64 (List.length a1 : Int))), (12, (.int .i64 x2))]) ⟨rfl, rfl, rfl, rfl, rfl, rfl, trivial⟩ ?_
              exact ⟨w64 (x1 + x7), rfl, rfl, (Keep.of hB4).below, hC4⟩
          · replace hr2 := ite_f hr2 hc2
            refine WL_guard_skip rfl rfl (by simp) rfl ?_
            refine WL_guard_skip rfl rfl (by simp) rfl ?_
            refine WL_guard_skip rfl rfl (by simp) rfl ?_
            refine WL_pick_f rfl rfl rfl ?_
            refine WL_move rfl rfl ?_
            refine WL_guard_skip rfl rfl (by simp) rfl ?_
            refine WL_guard_skip rfl rfl (by simp) rfl ?_
            refine WL_guard_skip rfl rfl (by simp) rfl ?_
            refine WL_guard_skip rfl rfl (by simp) rfl ?_
            refine WL_guard_skip rfl rfl (by simp) rfl ?_
            refine WL_pick_f rfl rfl rfl ?_
            obtain ⟨x8, hr5, hr2⟩ := bind_some hr2
            refine WL_call Try.call104 rfl rfl (c_M_bit false x8 hr5) ?_
            intro _ w5 hv3
            obtain ⟨rfl, hB5⟩ := res_int hv3
            have hC5 := hC1.grow hB5
            refine WL_add rfl rfl rfl ?_
            refine WL_assign rfl rfl ?_
            refine WL_nil ?_
            have hq3 := Option.some.inj hr2
            subst hq3
            refine nrm_sub (l' := [(1, (.int .i64 a2)), (2, (.int .i64 a3)), (7, (.int .i64 (w64 (x1 + x8)))), (10, u1), (11, (.int .i64 (List.length a1 : Int))), (12, (.int .i64 x2))]) ⟨rfl, rfl, rfl, rfl, rfl, rfl, trivial⟩ ?_
            exact ⟨w64 (x1 + x8), rfl, rfl, (Keep.of hB5).below, hC5⟩
        · rintro l2 _ w2 hs2 ⟨x5, rfl, rfl, hB2, hC2⟩
          try dsimp only at hL1
          refine blk_normal ?_
          refine nrm_sub' hs2 ?_
          clear hs2
          refine W_reg ?_
          refine WL_add rfl rfl rfl ?_
          refine WL_move rfl rfl ?_
          refine WL_nil ?_
          refine nrm_sub (l' := [(1, (.int .i64 a2)), (2, (.int .i64 a3)), (7, (.int .i64 x5)), (10, u1), (11, (.int .i64 (List.length a1 : Int))), (12, (.int .i64 (w64 (x2 + 1))))]) ⟨rfl, rfl, rfl, rfl, rfl, rfl, trivial⟩ ?_
          exact ⟨k1, Nat.lt_succ_self _, x5, w64 (x2 + 1), rfl, ((Keep.of hB1).then hB2).below, hC2, hL1⟩
      · replace hL1 := ite_f hL1 hc1
        refine W_exit ?_
        refine nrm_exit ?_
        refine nrm_exit ?_
        refine blk_exit ?_
        have hq4 := Option.some.inj hL1
        subst hq4
        refine nrm_sub (l' := [(7, (.int .i64 x1))]) ⟨rfl, trivial⟩ ?_
        exact ⟨x1, rfl, rfl, (Keep.of hB1).below, hC1⟩
  · rintro l3 _ w6 hs3 ⟨x3, rfl, rfl, hB6, hC6⟩
    try dsimp only at hF
    refine nrm_sub' hs3 ?_
    clear hs3
    refine W_seq_reg ?_
    refine WL_move rfl rfl ?_
    refine WL_assign rfl rfl ?_
    refine WL_nil ?_
    refine W_ret ?_
    have hq5 := Option.some.inj hF
    subst hq5
    refine fn_ret1 rfl rfl ?_
    exact ⟨_, rfl, int_res hC6 _⟩

theorem c_M_IsWindow {w0 : World} (a1 : (Int × Int)) (rr : Bool) (hF : M.IsWindow a1 = some rr) :
    Calls Try.prog 63 [(.agg #[(.int .i64 a1.1), (.int .i64 a1.2)])].toArray w0 fun e w' => ∃ v, e = .returned v ∧ Res w0 rr v w' := by
  refine calls_of_W Try.func63 rfl rfl ?_
  have hC0 := Ctx.start w0
  unfold M.IsWindow at hF
  refine W_seq_reg ?_
  refine WL_box (cs := [(.int .i64 a1.1), (.int .i64 a1.2)]) hC0 rfl rfl rfl (fun b1 w1 hC1 hB1 => ?_)
  refine WL_assign rfl rfl ?_
  refine WL_nil ?_
  obtain ⟨r1, hr1, hF⟩ := bind_some hF
  refine W_cut (fun l w => ∃ x1 : Bool, x1 = r1 ∧ l = [(2, (.bool x1))] ∧ Below w1.heap.size w1 w ∧ Ctx [] w0 w [Item.box b1 [(.int .i64 a1.1), (.int .i64 a1.2)]]) ?_ ?_
  · refine W_reg ?_
    refine WL_field Try.underlying41 rfl rfl (fun w => ⟨_, Try.sizeOf3 w⟩) rfl rfl ?_
    refine WL_load_box hC1 0 rfl rfl Try.isAgg3 rfl rfl ?_
    obtain ⟨x2, hr2, hr1⟩ := bind_some hr1
    refine WL_call Try.call84 rfl rfl (c_M_within a1.1 1 100 x2 hr2) ?_
    intro _ w3 hv1
    obtain ⟨rfl, hB3⟩ := res_bool hv1
    have hC3 := hC1.grow hB3
    refine WL_move rfl rfl ?_
    refine WL_fork (fun hc1 => ?_) (fun hc1 => ?_)
    · replace hr1 := ite_t hr1 hc1
      refine WL_guard rfl rfl ?_
      refine WL_field Try.underlying41 rfl rfl (fun w => ⟨_, Try.sizeOf3 w⟩) rfl rfl ?_
      refine WL_guard rfl rfl ?_
      refine WL_load_box hC3 0 rfl rfl Try.isAgg3 rfl rfl ?_
      obtain ⟨x3, hr3, hr1⟩ := bind_some hr1
      refine WL_guard rfl rfl ?_
      refine WL_call Try.call84 rfl rfl (c_M_within a1.2 1 99 x3 hr3) ?_
      intro _ w4 hv2
      obtain ⟨rfl, hB4⟩ := res_bool hv2
      have hC4 := hC3.grow hB4
      refine WL_pick_t rfl rfl rfl ?_
      refine WL_assign rfl rfl ?_
      refine WL_nil ?_
      have hq1 := Option.some.inj hr1
      subst hq1
      refine nrm_sub (l' := [(2, (.bool x3))]) ⟨rfl, trivial⟩ ?_
      exact ⟨x3, rfl, rfl, ((Keep.of hB3).then hB4).below, hC4⟩
    · replace hr1 := ite_f hr1 hc1
      refine WL_guard_skip rfl rfl (by simp) rfl ?_
      refine WL_guard_skip rfl rfl (by simp) rfl ?_
      refine WL_guard_skip rfl rfl (by simp) rfl ?_
      refine WL_pick_f rfl rfl rfl ?_
      refine WL_assign rfl rfl ?_
      refine WL_nil ?_
      have hq2 := Option.some.inj hr1
      subst hq2
      refine nrm_sub (l' := [(2, (.bool false))]) ⟨rfl, trivial⟩ ?_
      exact ⟨false, rfl, rfl, (Keep.of hB3).below, hC3⟩
  · rintro _ w2 ⟨x1, rfl, rfl, hB2, hC2⟩
    try dsimp only at hF
    refine W_ret ?_
    have hq3 := Option.some.inj hF
    subst hq3
    refine fn_ret1 rfl rfl ?_
    exact ⟨_, rfl, bool_res hC2 _⟩

theorem c_M_isTime {w0 : World} (a1 : Int) (rr : Bool) (hF : M.isTime a1 = some rr) :
    Calls Try.prog 85 [(.int .i64 a1)].toArray w0 fun e w' => ∃ v, e = .returned v ∧ Res w0 rr v w' := by
  refine calls_of_W Try.func85 rfl rfl ?_
  have hC0 := Ctx.start w0
  unfold M.isTime at hF
  refine W_seq_reg ?_
  refine WL_assign rfl rfl ?_
  refine WL_nil ?_
  refine W_seq_reg ?_
  refine WL_move rfl rfl ?_
  obtain ⟨x1, hr1, hF⟩ := bind_some hF
  refine WL_call Try.call84 rfl rfl (c_M_within a1 0 10000 x1 hr1) ?_
  intro _ w1 hv1
  obtain ⟨rfl, hB1⟩ := res_bool hv1
  have hC1 := hC0.grow hB1
  refine WL_assign rfl rfl ?_
  refine WL_nil ?_
  refine W_ret ?_
  have hq1 := Option.some.inj hF
  subst hq1
  refine fn_ret1 rfl rfl ?_
  exact ⟨_, rfl, bool_res hC1 _⟩

theorem c_M_Window_next {w0 : World} (a1 : (Int × Int)) (a2 : (List Int)) (u1 : Value) (g1 : RO [] w0 u1 a2) (a3 : Int) (rr : (Int × Bool)) (hF : M.Window_next a1 a2 a3 = some rr) :
    Calls Try.prog 86 [(.agg #[(.int .i64 a1.1), (.int .i64 a1.2)]), u1, (.int .i64 a3)].toArray w0 fun e w' => ∃ v, e = .returned v ∧ Res2 w0 rr.1 rr.2 v w' := by
  refine calls_of_W Try.func86 rfl rfl ?_
  have hC0 := Ctx.start w0
  unfold M.Window_next at hF
  refine W_seq_reg ?_
  refine WL_box (cs := [(.int .i64 a1.1), (.int .i64 a1.2)]) hC0 rfl rfl rfl (fun b1 w1 hC1 hB1 => ?_)
  refine WL_assign rfl rfl ?_
  refine WL_assign rfl rfl ?_
  refine WL_nil ?_
  refine W_seq_reg ?_
  refine WL_move rfl rfl ?_
  refine WL_assign rfl rfl ?_
  refine WL_nil ?_
  refine W_seq_reg ?_
  refine WL_move rfl rfl ?_
  refine WL_len Try.underlying27 g1 rfl rfl ?_
  refine WL_assign rfl rfl ?_
  refine WL_nil ?_
  refine W_seq ?_
  refine W_seq_reg ?_
  refine WL_move rfl rfl ?_
  refine WL_gtr rfl rfl rfl ?_
  refine WL_nil ?_
  obtain ⟨r1, hr1, hF⟩ := bind_some hF
  refine W_norm (fun l w => ∃ x1 : Int, x1 = r1 ∧ l = [(1, u1), (3, (ptr b1 0)), (8, (.int .i64 x1)), (9, (.int .i64 (List.length a2 : Int)))] ∧ Below w1.heap.size w1 w ∧ Ctx [] w0 w [Item.box b1 [(.int .i64 a1.1), (.int .i64 a1.2)]]) ?_ ?_
  · refine W_cond rfl (fun hc1 => ?_) (fun hc1 => ?_)
    · replace hr1 := ite_t hr1 hc1
      refine W_reg ?_
      refine WL_move rfl rfl ?_
      refine WL_move rfl rfl ?_
      refine WL_move rfl rfl ?_
      refine WL_sub rfl rfl rfl ?_
      obtain ⟨x2, hx1, hr1⟩ := bind_some hr1
      refine WL_index Try.underlying27 ty3 g1 hx1 rfl rfl rfl (fun b2 o1 h1 => ?_)
      refine WL_load ty3 h1 hC1.keep rfl rfl (fun v1 h2 => ?_)
      obtain rfl := ro_int h2
      refine WL_max rfl rfl rfl ?_
      refine WL_assign rfl rfl ?_
      refine WL_nil ?_
      have hq1 := Option.some.inj hr1
      subst hq1
      refine nrm_sub (l' := [(1, u1), (3, (ptr b1 0)), (8, (.int .i64 (if x2 > a3 then x2 else a3))), (9, (.int .i64 (List.length a2 : Int)))]) ⟨rfl, rfl, rfl, rfl, trivial⟩ ?_
      exact ⟨if x2 > a3 then x2 else a3, rfl, rfl, (Below.refl _ _), hC1⟩
    · replace hr1 := ite_f hr1 hc1
      refine W_skip ?_
      have hq2 := Option.some.inj hr1
      subst hq2
      refine nrm_sub (l' := [(1, u1), (3, (ptr b1 0)), (8, (.int .i64 a3)), (9, (.int .i64 (List.length a2 : Int)))]) ⟨rfl, rfl, rfl, rfl, trivial⟩ ?_
      exact ⟨a3, rfl, rfl, (Below.refl _ _), hC1⟩
  · rintro l1 _ w2 hs1 ⟨x1, rfl, rfl, hB2, hC2⟩
    try dsimp only at hF
    refine nrm_sub' hs1 ?_
    clear hs1
    refine W_seq ?_
    refine W_seq_reg ?_
    refine WL_move rfl rfl ?_
    refine WL_field Try.underlying41 rfl rfl (fun w => ⟨_, Try.sizeOf3 w⟩) rfl rfl ?_
    refine WL_load_box hC2 0 rfl rfl Try.isAgg3 rfl rfl ?_
    refine WL_geq rfl rfl rfl ?_
    refine WL_nil ?_
    obtain ⟨r2, hr2, hF⟩ := bind_some hF
    refine W_norm (fun l w => ∃ x3 : Int, x3 = r2 ∧ l = [(8, (.int .i64 x3))] ∧ Below w2.heap.size w2 w ∧ Ctx [] w0 w [Item.box b1 [(.int .i64 a1.1), (.int .i64 a1.2)]]) ?_ ?_
    · refine W_cond rfl (fun hc2 => ?_) (fun hc2 => ?_)
      · replace hr2 := ite_t hr2 hc2
        obtain ⟨x4, hx2, hr2⟩ := bind_some hr2
        refine W.sub (l' := [(1, u1), (3, (ptr b1 0)), (8, (.int .i64 x1)), (9, (.int .i64 (List.length a2 : Int))), (22, (.int .i64 (List.length a2 : Int))), (23, (ptr b1 1)), (24, (.int .i64 a1.2)), (25, (.bool (decide (a1.2 ≤ (List.length a2 : Int)))))]) ?_ ⟨rfl, rfl, rfl, rfl, rfl, rfl, rfl, rfl, trivial⟩
        refine W_any 11 [PV.val (.int .i64 x1), PV.val u1, PV.val (.int .i64 (List.length a2 : Int)), PV.val (ptr b1 1), PV.val (.int .i64 a1.2), PV.val (.int .i64 (w64 ((List.length a2 : Int) - a1.2))), PV.at [] w0 x4, PV.val (.int .i64 x4), PV.val (ptr b1 0), PV.val (.int .i64 a1.1), PV.val (.int .i64 (w64 (x4 + a1.1)))] [[], [], [], [], [3], [2, 4], [1, 5], [6], [], [8], [7, 9]] hmix (by kernel_rfl) rfl ?_ ?_
        · refine Steps_cons ?_ ?_
          · intro w4 hB4
            refine DepsK_nil ?_
            refine WL_move rfl rfl ?_
            refine WL_nil ?_
            exact Fin1_val (Below.refl _ _) rfl rfl ⟨rfl, rfl⟩
          refine Steps_cons ?_ ?_
          · intro w4 hB4
            refine DepsK_nil ?_
            refine WL_move rfl rfl ?_
            refine WL_nil ?_
            exact Fin1_val (Below.refl _ _) rfl rfl ⟨rfl, rfl⟩
          refine Steps_cons ?_ ?_
          · intro w4 hB4
            refine DepsK_nil ?_
            refine WL_move rfl rfl ?_
            refine WL_nil ?_
            exact Fin1_val (Below.refl _ _) rfl rfl ⟨rfl, rfl⟩
          refine Steps_cons ?_ ?_
          · intro w4 hB4
            refine DepsK_nil ?_
            refine WL_field Try.underlying41 rfl rfl (fun w => ⟨_, Try.sizeOf3 w⟩) rfl rfl ?_
            refine WL_nil ?_
            exact Fin1_val (Below.refl _ _) rfl rfl ⟨rfl, rfl⟩
          refine Steps_cons ?_ ?_
          · intro w4 hB4
            refine DepsK_cons rfl rfl ?_
            rintro _ _ ⟨rfl, rfl⟩
            refine DepsK_nil ?_
            refine WL_load_box (hC2.grow hB4) 0 rfl rfl Try.isAgg3 rfl rfl ?_
            refine WL_nil ?_
            exact Fin1_val (Below.refl _ _) rfl rfl ⟨rfl, rfl⟩
          refine Steps_cons ?_ ?_
          · intro w4 hB4
            refine DepsK_cons rfl rfl ?_
            rintro _ _ ⟨rfl, rfl⟩
            refine DepsK_cons rfl rfl ?_
            rintro _ _ ⟨rfl, rfl⟩
            refine DepsK_nil ?_
            refine WL_sub rfl rfl rfl ?_
            refine WL_nil ?_
            exact Fin1_val (Below.refl _ _) rfl rfl ⟨rfl, rfl⟩
          refine Steps_cons ?_ ?_
          · intro w4 hB4
            refine DepsK_cons rfl rfl ?_
            rintro _ _ ⟨rfl, rfl⟩
            refine DepsK_cons rfl rfl ?_
            rintro _ _ ⟨rfl, rfl⟩
            refine DepsK_nil ?_
            refine WL_index Try.underlying27 ty3 g1 hx2 rfl rfl rfl (fun b3 o2 h3 => ?_)
            refine WL_nil ?_
            exact Fin1_val (Below.refl _ _) rfl rfl ⟨rfl, _, _, rfl, h3⟩
          refine Steps_cons ?_ ?_
          · intro w4 hB4
            refine DepsK_cons rfl rfl ?_
            rintro _ _ ⟨rfl, b3, o2, rfl, h3⟩
            refine DepsK_nil ?_
            refine WL_load ty3 h3 (hC2.keep.then hB4) rfl rfl (fun v2 h4 => ?_)
            obtain rfl := ro_int h4
            refine WL_nil ?_
            exact Fin1_val (Below.refl _ _) rfl rfl ⟨rfl, rfl⟩
          refine Steps_cons ?_ ?_
          · intro w4 hB4
            refine DepsK_nil ?_
            refine WL_field Try.underlying41 rfl rfl (fun w => ⟨_, Try.sizeOf3 w⟩) rfl rfl ?_
            refine WL_nil ?_
            exact Fin1_val (Below.refl _ _) rfl rfl ⟨rfl, rfl⟩
          refine Steps_cons ?_ ?_
          · intro w4 hB4
            refine DepsK_cons rfl rfl ?_
            rintro _ _ ⟨rfl, rfl⟩
            refine DepsK_nil ?_
            refine WL_load_box (hC2.grow hB4) 0 rfl rfl Try.isAgg3 rfl rfl ?_
            refine WL_nil ?_
            exact Fin1_val (Below.refl _ _) rfl rfl ⟨rfl, rfl⟩
          refine Steps_cons ?_ ?_
          · intro w4 hB4
            refine DepsK_cons rfl rfl ?_
            rintro _ _ ⟨rfl, rfl⟩
            refine DepsK_cons rfl rfl ?_
            rintro _ _ ⟨rfl, rfl⟩
            refine DepsK_nil ?_
            refine WL_add rfl rfl rfl ?_
            refine WL_nil ?_
            exact Fin1_val (Below.refl _ _) rfl rfl ⟨rfl, rfl⟩
          exact Steps_nil
        · intro w5 hB5
          refine AllK_cons rfl ?_
          rintro _ _ ⟨rfl, rfl⟩
          refine AllK_cons rfl ?_
          rintro _ _ ⟨rfl, rfl⟩
          refine AllK_cons rfl ?_
          rintro _ _ ⟨rfl, rfl⟩
          refine AllK_cons rfl ?_
          rintro _ _ ⟨rfl, rfl⟩
          refine AllK_cons rfl ?_
          rintro _ _ ⟨rfl, rfl⟩
          refine AllK_cons rfl ?_
          rintro _ _ ⟨rfl, rfl⟩
          refine AllK_cons rfl ?_
          rintro _ _ ⟨rfl, b3, o2, rfl, h3⟩
          refine AllK_cons rfl ?_
          rintro _ _ ⟨rfl, rfl⟩
          refine AllK_cons rfl ?_
          rintro _ _ ⟨rfl, rfl⟩
          refine AllK_cons rfl ?_
          rintro _ _ ⟨rfl, rfl⟩
          refine AllK_cons rfl ?_
          rintro _ _ ⟨rfl, rfl⟩
          refine AllK_nil ?_
          intro hn1 hb1
          have hC4 := hC2.grow hB5
          refine WL_max rfl rfl rfl ?_
          refine WL_assign rfl rfl ?_
          refine WL_nil ?_
          have hq3 := Option.some.inj hr2
          subst hq3
          refine nrm_sub (l' := [(8, (.int .i64 (if (w64 (x4 + a1.1)) > x1 then w64 (x4 + a1.1) else x1)))]) ⟨rfl, trivial⟩ ?_
          exact ⟨if (w64 (x4 + a1.1)) > x1 then w64 (x4 + a1.1) else x1, rfl, rfl, (Keep.of hB5).below, hC4⟩
      · replace hr2 := ite_f hr2 hc2
        refine W_skip ?_
        have hq4 := Option.some.inj hr2
        subst hq4
        refine nrm_sub (l' := [(8, (.int .i64 x1))]) ⟨rfl, trivial⟩ ?_
        exact ⟨x1, rfl, rfl, (Below.refl _ _), hC2⟩
    · rintro l2 _ w3 hs2 ⟨x3, rfl, rfl, hB3, hC3⟩
      try dsimp only at hF
      refine nrm_sub' hs2 ?_
      clear hs2
      refine W_seq ?_
      refine W_seq_reg ?_
      refine WL_move rfl rfl ?_
      refine WL_gtr rfl rfl rfl ?_
      refine WL_nil ?_
      refine W_cond rfl (fun hc3 => ?_) (fun hc3 => ?_)
      · replace hF := ite_t hF hc3
        refine W_seq_reg ?_
        refine WL_assign rfl rfl ?_
        refine WL_assign rfl rfl ?_
        refine WL_nil ?_
        refine W_ret ?_
        refine nrm_ret ?_
        have hq5 := Option.some.inj hF
        subst hq5
        refine fn_ret2 rfl rfl rfl ?_
        have hC5 := hC3.triv (bool_val (false))
        have hC6 := hC5.triv (int_val (0))
        exact ⟨_, rfl, res2_of hC6⟩
      · replace hF := ite_f hF hc3
        refine W_skip ?_
        refine nrm_normal ?_
        refine W_seq_reg ?_
        refine WL_move rfl rfl ?_
        refine WL_assign rfl rfl ?_
        refine WL_assign rfl rfl ?_
        refine WL_nil ?_
        refine W_ret ?_
        have hq6 := Option.some.inj hF
        subst hq6
        refine fn_ret2 rfl rfl rfl ?_
        have hC7 := hC3.triv (bool_val (true))
        have hC8 := hC7.triv (int_val (x3))
        exact ⟨_, rfl, res2_of hC8⟩

theorem c_Q_heldIntS {w0 : World} (a1 : (List Int)) (u1 : Value) (g1 : RO [] w0 u1 a1) (a2 : Int) (rr : Int) (hF : Q.heldIntS a1 a2 = some rr) :
    Calls Try.prog 34 [u1, (.int .i64 a2)].toArray w0 fun e w' => ∃ v, e = .returned v ∧ Res w0 rr v w' := by
  refine calls_of_W Try.func34 rfl rfl ?_
  have hC0 := Ctx.start w0
  unfold Q.heldIntS at hF
  refine W_seq_reg ?_
  refine WL_assign rfl rfl ?_
  refine WL_nil ?_
  refine W_seq ?_
  refine W_seq_reg ?_
  refine WL_assign rfl rfl ?_
  refine WL_nil ?_
  obtain ⟨r1, hr1, hF⟩ := bind_some hF
  refine W_norm (fun l w => ∃ x3 : Int, .inl x3 = r1 ∧ l = [(1, (.int .i64 x3))] ∧ Below w0.heap.size w0 w ∧ Ctx [] w0 w []) ?_ ?_
  · refine W_block ?_
    refine W.sub (l' := [(0, u1), (1, (.int .i64 a2)), (5, (.int .i64 0))]) ?_ ⟨rfl, rfl, rfl, trivial⟩
    refine W_loop (fun k l w => ∃ x1 : Int, ∃ x2 : Int, l = [(0, u1), (1, (.int .i64 x1)), (5, (.int .i64 x2))] ∧ Below w0.heap.size w0 w ∧ Ctx [] w0 w [] ∧ Q.heldIntS_l1 a1 k x1 x2 = some r1) FUEL ⟨a2, 0, rfl, (Below.refl _ _), hC0, hr1⟩ ?_
    clear hr1
    rintro k1 _ w1 ⟨x1, x2, rfl, hB1, hC1, hL1⟩
    cases k1 with
    | zero => rw [Q.heldIntS_l1] at hL1; cases hL1
    | succ k1 =>
      rw [Q.heldIntS_l1] at hL1
      refine W_seq ?_
      refine W_seq_reg ?_
      refine WL_move rfl rfl ?_
      refine WL_move rfl rfl ?_
      refine WL_len Try.underlying27 g1 rfl rfl ?_
      refine WL_lss rfl rfl rfl ?_
      refine WL_nil ?_
      refine W_cond rfl (fun hc1 => ?_) (fun hc1 => ?_)
      · replace hL1 := ite_t hL1 hc1
        refine W_skip ?_
        refine nrm_normal ?_
        refine W_seq ?_
        refine W_block ?_
        refine W_seq ?_
        refine W_seq_reg ?_
        refine WL_move rfl rfl ?_
        refine WL_move rfl rfl ?_
        obtain ⟨x4, hx1, hL1⟩ := bind_some hL1
        refine WL_index Try.underlying27 ty3 g1 hx1 rfl rfl rfl (fun b1 o1 h1 => ?_)
        refine WL_load ty3 h1 hC1.keep rfl rfl (fun v1 h2 => ?_)
        obtain rfl := ro_int h2
        refine WL_move rfl rfl ?_
        refine WL_neq rfl rfl rfl ?_
        refine WL_nil ?_
        refine W_cond rfl (fun hc2 => ?_) (fun hc2 => ?_)
        · replace hL1 := ite_t hL1 hc2
          refine W_seq_reg ?_
          refine WL_assign rfl rfl ?_
          refine WL_nil ?_
          refine W_ret ?_
          refine nrm_ret ?_
          refine blk_ret ?_
          refine nrm_ret ?_
          refine nrm_ret ?_
          refine blk_ret ?_
          refine nrm_ret ?_
          refine nrm_ret ?_
          have hq1 := Option.some.inj hL1
          subst hq1
          dsimp only at hF
          have hq2 := Option.some.inj hF
          subst hq2
          refine fn_ret1 rfl rfl ?_
          exact ⟨_, rfl, int_res hC1 _⟩
        · replace hL1 := ite_f hL1 hc2
          refine W_skip ?_
          refine nrm_normal ?_
          refine W_reg ?_
          refine WL_move rfl rfl ?_
          refine WL_add rfl rfl rfl ?_
          refine WL_assign rfl rfl ?_
          refine WL_nil ?_
          refine blk_normal ?_
          refine nrm_normal ?_
          refine W_reg ?_
          refine WL_move rfl rfl ?_
          refine WL_add rfl rfl rfl ?_
          refine WL_assign rfl rfl ?_
          refine WL_nil ?_
          refine nrm_sub (l' := [(0, u1), (1, (.int .i64 (w64 (x1 + 1)))), (5, (.int .i64 (w64 (x2 + 1))))]) ⟨rfl, rfl, rfl, trivial⟩ ?_
          exact ⟨k1, Nat.lt_succ_self _, w64 (x1 + 1), w64 (x2 + 1), rfl, (Keep.of hB1).below, hC1, hL1⟩
      · replace hL1 := ite_f hL1 hc1
        refine W_exit ?_
        refine nrm_exit ?_
        refine nrm_exit ?_
        refine blk_exit ?_
        have hq3 := Option.some.inj hL1
        subst hq3
        refine nrm_sub (l' := [(1, (.int .i64 x1))]) ⟨rfl, trivial⟩ ?_
        exact ⟨x1, rfl, rfl, (Keep.of hB1).below, hC1⟩
  · rintro l2 _ w2 hs2 ⟨x3, rfl, rfl, hB2, hC2⟩
    try dsimp only at hF
    refine nrm_sub' hs2 ?_
    clear hs2
    refine W_seq_reg ?_
    refine WL_move rfl rfl ?_
    refine WL_assign rfl rfl ?_
    refine WL_nil ?_
    refine W_ret ?_
    have hq4 := Option.some.inj hF
    subst hq4
    refine fn_ret1 rfl rfl ?_
    exact ⟨_, rfl, int_res hC2 _⟩

theorem c_Q_szFact {w0 : World} (a1 : (Int × (List Int))) (u1 : Value) (g1 : RO [] w0 u1 a1.2) (a2 : Int) (rr : Int) (hF : Q.szFact a1 a2 = some rr) :
    Calls Try.prog 87 [(.agg #[(.int .i64 a1.1), u1]), (.int .i64 a2)].toArray w0 fun e w' => ∃ v, e = .returned v ∧ Res w0 rr v w' := by
  refine calls_of_W Try.func87 rfl rfl ?_
  have hC0 := Ctx.start w0
  unfold Q.szFact at hF
  refine W_seq_reg ?_
  refine WL_box (cs := [(.int .i64 a1.1), u1]) hC0 rfl rfl rfl (fun b1 w1 hC1 hB1 => ?_)
  refine WL_assign rfl rfl ?_
  refine WL_nil ?_
  refine W_seq_reg ?_
  refine WL_field Try.underlying106 rfl rfl (fun w => ⟨_, Try.sizeOf27 w⟩) rfl rfl ?_
  refine WL_load_box hC1 0 rfl rfl Try.isAgg27 rfl rfl ?_
  refine WL_move rfl rfl ?_
  obtain ⟨x1, hr1, hF⟩ := bind_some hF
  refine WL_call Try.call78 rfl rfl (c_Q_szIntS a1.2 u1 (g1.now hC1.keep) a2 x1 hr1) ?_
  intro _ w2 hv1
  obtain ⟨rfl, hB2⟩ := res_int hv1
  have hC2 := hC1.grow hB2
  refine WL_assign rfl rfl ?_
  refine WL_nil ?_
  refine W_seq ?_
  refine W_seq_reg ?_
  refine WL_move rfl rfl ?_
  refine WL_lss rfl rfl rfl ?_
  refine WL_nil ?_
  refine W_cond rfl (fun hc1 => ?_) (fun hc1 => ?_)
  · replace hF := ite_t hF hc1
    refine W_seq_reg ?_
    refine WL_assign rfl rfl ?_
    refine WL_nil ?_
    refine W_ret ?_
    refine nrm_ret ?_
    have hq1 := Option.some.inj hF
    subst hq1
    refine fn_ret1 rfl rfl ?_
    exact ⟨_, rfl, int_res hC2 _⟩
  · replace hF := ite_f hF hc1
    refine W_skip ?_
    refine nrm_normal ?_
    refine W_seq_reg ?_
    refine WL_move rfl rfl ?_
    refine WL_assign rfl rfl ?_
    refine WL_nil ?_
    refine W_ret ?_
    have hq2 := Option.some.inj hF
    subst hq2
    refine fn_ret1 rfl rfl ?_
    exact ⟨_, rfl, int_res hC2 _⟩

theorem c_Q_szFactS {w0 : World} (a1 : (List (Int × (List Int)))) (u1 : Value) (g1 : RO [] w0 u1 a1) (a2 : Int) (rr : Int) (hF : Q.szFactS a1 a2 = some rr) :
    Calls Try.prog 35 [u1, (.int .i64 a2)].toArray w0 fun e w' => ∃ v, e = .returned v ∧ Res w0 rr v w' := by
  refine calls_of_W Try.func35 rfl rfl ?_
  have hC0 := Ctx.start w0
  unfold Q.szFactS at hF
  refine W_seq_reg ?_
  refine WL_assign rfl rfl ?_
  refine WL_nil ?_
  refine W_seq_reg ?_
  refine WL_move rfl rfl ?_
  refine WL_move rfl rfl ?_
  refine WL_len Try.underlying49 g1 rfl rfl ?_
  refine WL_sub rfl rfl rfl ?_
  refine WL_assign rfl rfl ?_
  refine WL_nil ?_
  refine W_seq ?_
  refine W_seq_reg ?_
  refine WL_move rfl rfl ?_
  refine WL_lss rfl rfl rfl ?_
  refine WL_nil ?_
  refine W_cond rfl (fun hc1 => ?_) (fun hc1 => ?_)
  · replace hF := ite_t hF hc1
    refine W_seq_reg ?_
    refine WL_assign rfl rfl ?_
    refine WL_nil ?_
    refine W_ret ?_
    refine nrm_ret ?_
    have hq1 := Option.some.inj hF
    subst hq1
    refine fn_ret1 rfl rfl ?_
    exact ⟨_, rfl, int_res hC0 _⟩
  · replace hF := ite_f hF hc1
    refine W_skip ?_
    refine nrm_normal ?_
    refine W_seq ?_
    refine W_seq_reg ?_
    refine WL_assign rfl rfl ?_
    refine WL_nil ?_
    obtain ⟨r1, hr1, hF⟩ := bind_some hF
    refine W_norm (fun l w => ∃ x3 : Int, .inl x3 = r1 ∧ l = [(1, (.int .i64 x3))] ∧ Below w0.heap.size w0 w ∧ Ctx [] w0 w []) ?_ ?_
    · refine W_block ?_
      refine W.sub (l' := [(0, u1), (1, (.int .i64 (w64 (a2 - (List.length a1 : Int))))), (5, (.int .i64 0))]) ?_ ⟨rfl, rfl, rfl, trivial⟩
      refine W_loop (fun k l w => ∃ x1 : Int, ∃ x2 : Int, l = [(0, u1), (1, (.int .i64 x1)), (5, (.int .i64 x2))] ∧ Below w0.heap.size w0 w ∧ Ctx [] w0 w [] ∧ Q.szFactS_l1 a1 k x1 x2 = some r1) FUEL ⟨w64 (a2 - (List.length a1 : Int)), 0, rfl, (Below.refl _ _), hC0, hr1⟩ ?_
      clear hr1
      rintro k1 _ w1 ⟨x1, x2, rfl, hB1, hC1, hL1⟩
      cases k1 with
      | zero => rw [Q.szFactS_l1] at hL1; cases hL1
      | succ k1 =>
        rw [Q.szFactS_l1] at hL1
        refine W_seq ?_
        refine W_seq_reg ?_
        refine WL_move rfl rfl ?_
        refine WL_move rfl rfl ?_
        refine WL_len Try.underlying49 g1 rfl rfl ?_
        refine WL_lss rfl rfl rfl ?_
        refine WL_nil ?_
        refine W_cond rfl (fun hc2 => ?_) (fun hc2 => ?_)
        · replace hL1 := ite_t hL1 hc2
          refine W_skip ?_
          refine nrm_normal ?_
          refine W_seq ?_
          refine W_block ?_
          refine W_seq_reg ?_
          refine WL_move rfl rfl ?_
          refine WL_move rfl rfl ?_
          obtain ⟨x4, hx1, hL1⟩ := bind_some hL1
          refine WL_index Try.underlying49 ty106 g1 hx1 rfl rfl rfl (fun b1 o1 h1 => ?_)
          refine WL_load ty106 h1 hC1.keep rfl rfl (fun v1 h2 => ?_)
          obtain ⟨v2, rfl, h3⟩ := ro_st106 h2
          refine WL_move rfl rfl ?_
          obtain ⟨x5, hr2, hL1⟩ := bind_some hL1
          refine WL_call Try.call87 rfl rfl (c_Q_szFact x4 v2 (h3.now hC1.keep) x1 x5 hr2) ?_
          intro _ w2 hv1
          obtain ⟨rfl, hB2⟩ := res_int hv1
          have hC2 := hC1.grow hB2
          refine WL_assign rfl rfl ?_
          refine WL_nil ?_
          refine W_seq_reg ?_
          refine WL_move rfl rfl ?_
          refine WL_lss rfl rfl rfl ?_
          refine WL_nil ?_
          refine W_cond rfl (fun hc3 => ?_) (fun hc3 => ?_)
          · replace hL1 := ite_t hL1 hc3
            refine W_seq_reg ?_
            refine WL_assign rfl rfl ?_
            refine WL_nil ?_
            refine W_ret ?_
            refine blk_ret ?_
            refine nrm_ret ?_
            refine nrm_ret ?_
            refine blk_ret ?_
            refine nrm_ret ?_
            refine nrm_ret ?_
            have hq2 := Option.some.inj hL1
            subst hq2
            dsimp only at hF
            have hq3 := Option.some.inj hF
            subst hq3
            refine fn_ret1 rfl rfl ?_
            exact ⟨_, rfl, int_res hC2 _⟩
          · replace hL1 := ite_f hL1 hc3
            refine W_skip ?_
            refine blk_normal ?_
            refine nrm_normal ?_
            refine W_reg ?_
            refine WL_move rfl rfl ?_
            refine WL_add rfl rfl rfl ?_
            refine WL_assign rfl rfl ?_
            refine WL_nil ?_
            refine nrm_sub (l' := [(0, u1), (1, (.int .i64 x5)), (5, (.int .i64 (w64 (x2 + 1))))]) ⟨rfl, rfl, rfl, trivial⟩ ?_
            exact ⟨k1, Nat.lt_succ_self _, x5, w64 (x2 + 1), rfl, ((Keep.of hB1).then hB2).below, hC2, hL1⟩
        · replace hL1 := ite_f hL1 hc2
          refine W_exit ?_
          refine nrm_exit ?_
          refine nrm_exit ?_
          refine blk_exit ?_
          have hq4 := Option.some.inj hL1
          subst hq4
          refine nrm_sub (l' := [(1, (.int .i64 x1))]) ⟨rfl, trivial⟩ ?_
          exact ⟨x1, rfl, rfl, (Keep.of hB1).below, hC1⟩
    · rintro l2 _ w3 hs2 ⟨x3, rfl, rfl, hB3, hC3⟩
      try dsimp only at hF
      refine nrm_sub' hs2 ?_
      clear hs2
      refine W_seq_reg ?_
      refine WL_move rfl rfl ?_
      refine WL_assign rfl rfl ?_
      refine WL_nil ?_
      refine W_ret ?_
      have hq5 := Option.some.inj hF
      subst hq5
      refine fn_ret1 rfl rfl ?_
      exact ⟨_, rfl, int_res hC3 _⟩

theorem c_M_isPage {w0 : World} (a1 : Int) (rr : Bool) (hF : M.isPage a1 = some rr) :
    Calls Try.prog 90 [(.int .i64 a1)].toArray w0 fun e w' => ∃ v, e = .returned v ∧ Res w0 rr v w' := by
  refine calls_of_W Try.func90 rfl rfl ?_
  have hC0 := Ctx.start w0
  unfold M.isPage at hF
  refine W_seq_reg ?_
  refine WL_assign rfl rfl ?_
  refine WL_nil ?_
  refine W_seq_reg ?_
  refine WL_move rfl rfl ?_
  obtain ⟨x1, hr1, hF⟩ := bind_some hF
  refine WL_call Try.call84 rfl rfl (c_M_within a1 1 9 x1 hr1) ?_
  intro _ w1 hv1
  obtain ⟨rfl, hB1⟩ := res_bool hv1
  have hC1 := hC0.grow hB1
  refine WL_assign rfl rfl ?_
  refine WL_nil ?_
  refine W_ret ?_
  have hq1 := Option.some.inj hF
  subst hq1
  refine fn_ret1 rfl rfl ?_
  exact ⟨_, rfl, bool_res hC1 _⟩

theorem c_Q_eqFact {w0 : World} (a1 : (Int × (List Int))) (u1 : Value) (g1 : RO [] w0 u1 a1.2) (a2 : (Int × (List Int))) (u2 : Value) (g2 : RO [] w0 u2 a2.2) (rr : Bool) (hF : Q.eqFact a1 a2 = some rr) :
    Calls Try.prog 92 [(.agg #[(.int .i64 a1.1), u1]), (.agg #[(.int .i64 a2.1), u2])].toArray w0 fun e w' => ∃ v, e = .returned v ∧ Res w0 rr v w' := by
  refine calls_of_W Try.func92 rfl rfl ?_
  have hC0 := Ctx.start w0
  unfold Q.eqFact at hF
  refine W_seq_reg ?_
  refine WL_box (cs := [(.int .i64 a1.1), u1]) hC0 rfl rfl rfl (fun b1 w1 hC1 hB1 => ?_)
  refine WL_box (cs := [(.int .i64 a2.1), u2]) hC1 rfl rfl rfl (fun b2 w2 hC2 hB2 => ?_)
  refine WL_assign rfl rfl ?_
  refine WL_nil ?_
  refine W_seq ?_
  refine W_seq_reg ?_
  refine WL_field Try.underlying108 rfl rfl (fun w => ⟨_, Try.sizeOf3 w⟩) rfl rfl ?_
  refine WL_load_box hC2 1 rfl rfl Try.isAgg3 rfl rfl ?_
  refine WL_field Try.underlying108 rfl rfl (fun w => ⟨_, Try.sizeOf3 w⟩) rfl rfl ?_
  refine WL_load_box hC2 0 rfl rfl Try.isAgg3 rfl rfl ?_
  refine WL_neq rfl rfl rfl ?_
  refine WL_nil ?_
  refine W_cond rfl (fun hc1 => ?_) (fun hc1 => ?_)
  · replace hF := ite_t hF hc1
    refine W_seq_reg ?_
    refine WL_assign rfl rfl ?_
    refine WL_nil ?_
    refine W_ret ?_
    refine nrm_ret ?_
    have hq1 := Option.some.inj hF
    subst hq1
    refine fn_ret1 rfl rfl ?_
    exact ⟨_, rfl, bool_res hC2 _⟩
  · replace hF := ite_f hF hc1
    refine W_skip ?_
    refine nrm_normal ?_
    refine W_seq ?_
    refine W_seq_reg ?_
    refine WL_field Try.underlying108 rfl rfl (fun w => ⟨_, Try.sizeOf27 w⟩) rfl rfl ?_
    refine WL_load_box hC2 1 rfl rfl Try.isAgg27 rfl rfl ?_
    refine WL_field Try.underlying108 rfl rfl (fun w => ⟨_, Try.sizeOf27 w⟩) rfl rfl ?_
    refine WL_load_box hC2 0 rfl rfl Try.isAgg27 rfl rfl ?_
    obtain ⟨x1, hr1, hF⟩ := bind_some hF
    refine WL_call Try.call30 rfl rfl (c_Q_eqIntS a1.2 u1 (g1.now hC2.keep) a2.2 u2 (g2.now hC2.keep) x1 hr1) ?_
    intro _ w3 hv1
    obtain ⟨rfl, hB3⟩ := res_bool hv1
    have hC3 := hC2.grow hB3
    refine WL_not rfl rfl ?_
    refine WL_nil ?_
    refine W_cond rfl (fun hc2 => ?_) (fun hc2 => ?_)
    · replace hF := ite_t hF hc2
      refine W_seq_reg ?_
      refine WL_assign rfl rfl ?_
      refine WL_nil ?_
      refine W_ret ?_
      refine nrm_ret ?_
      have hq2 := Option.some.inj hF
      subst hq2
      refine fn_ret1 rfl rfl ?_
      exact ⟨_, rfl, bool_res hC3 _⟩
    · replace hF := ite_f hF hc2
      refine W_skip ?_
      refine nrm_normal ?_
      refine W_seq_reg ?_
      refine WL_assign rfl rfl ?_
      refine WL_nil ?_
      refine W_ret ?_
      have hq3 := Option.some.inj hF
      subst hq3
      refine fn_ret1 rfl rfl ?_
      exact ⟨_, rfl, bool_res hC3 _⟩

theorem c_Q_eqFactS {w0 : World} (a1 : (List (Int × (List Int)))) (u1 : Value) (g1 : RO [] w0 u1 a1) (a2 : (List (Int × (List Int)))) (u2 : Value) (g2 : RO [] w0 u2 a2) (rr : Bool) (hF : Q.eqFactS a1 a2 = some rr) :
    Calls Try.prog 39 [u1, u2].toArray w0 fun e w' => ∃ v, e = .returned v ∧ Res w0 rr v w' := by
  refine calls_of_W Try.func39 rfl rfl ?_
  have hC0 := Ctx.start w0
  unfold Q.eqFactS at hF
  refine W_seq_reg ?_
  refine WL_assign rfl rfl ?_
  refine WL_nil ?_
  refine W_seq ?_
  refine W_seq_reg ?_
  refine WL_move rfl rfl ?_
  refine WL_len Try.underlying51 g1 rfl rfl ?_
  refine WL_move rfl rfl ?_
  refine WL_len Try.underlying51 g2 rfl rfl ?_
  refine WL_neq rfl rfl rfl ?_
  refine WL_nil ?_
  refine W_cond rfl (fun hc1 => ?_) (fun hc1 => ?_)
  · replace hF := ite_t hF hc1
    refine W_seq_reg ?_
    refine WL_assign rfl rfl ?_
    refine WL_nil ?_
    refine W_ret ?_
    refine nrm_ret ?_
    have hq1 := Option.some.inj hF
    subst hq1
    refine fn_ret1 rfl rfl ?_
    exact ⟨_, rfl, bool_res hC0 _⟩
  · replace hF := ite_f hF hc1
    refine W_skip ?_
    refine nrm_normal ?_
    refine W_seq ?_
    refine W_seq_reg ?_
    refine WL_assign rfl rfl ?_
    refine WL_nil ?_
    obtain ⟨r1, hr1, hF⟩ := bind_some hF
    refine W_norm (fun l w => .inl () = r1 ∧ l = [] ∧ Below w0.heap.size w0 w ∧ Ctx [] w0 w []) ?_ ?_
    · refine W_block ?_
      refine W.sub (l' := [(0, u1), (1, u2), (5, (.int .i64 0))]) ?_ ⟨rfl, rfl, rfl, trivial⟩
      refine W_loop (fun k l w => ∃ x1 : Int, l = [(0, u1), (1, u2), (5, (.int .i64 x1))] ∧ Below w0.heap.size w0 w ∧ Ctx [] w0 w [] ∧ Q.eqFactS_l1 a1 a2 k x1 = some r1) FUEL ⟨0, rfl, (Below.refl _ _), hC0, hr1⟩ ?_
      clear hr1
      rintro k1 _ w1 ⟨x1, rfl, hB1, hC1, hL1⟩
      cases k1 with
      | zero => rw [Q.eqFactS_l1] at hL1; cases hL1
      | succ k1 =>
        rw [Q.eqFactS_l1] at hL1
        refine W_seq ?_
        refine W_seq_reg ?_
        refine WL_move rfl rfl ?_
        refine WL_move rfl rfl ?_
        refine WL_len Try.underlying51 g1 rfl rfl ?_
        refine WL_lss rfl rfl rfl ?_
        refine WL_nil ?_
        refine W_cond rfl (fun hc2 => ?_) (fun hc2 => ?_)
        · replace hL1 := ite_t hL1 hc2
          refine W_skip ?_
          refine nrm_normal ?_
          refine W_seq ?_
          refine W_block ?_
          refine W_seq ?_
          obtain ⟨x2, hx1, hL1⟩ := bind_some hL1
          obtain ⟨x3, hx2, hL1⟩ := bind_some hL1
          refine W.sub (l' := [(0, u1), (1, u2), (5, (.int .i64 x1)), (11, (.int .i64 x1)), (12, u1), (13, (.int .i64 (List.length a1 : Int))), (14, (.bool (decide (x1 < (List.length a1 : Int)))))]) ?_ ⟨rfl, rfl, rfl, rfl, rfl, rfl, rfl, trivial⟩
          refine W_any 8 [PV.val u1, PV.val (.int .i64 x1), PV.at [] w0 x2, PV.ro [] w0 x2, PV.val u2, PV.val (.int .i64 x1), PV.at [] w0 x3, PV.ro [] w0 x3] [[], [], [0, 1], [2], [], [], [4, 5], [6]] hmix (by kernel_rfl) rfl ?_ ?_
          · refine Steps_cons ?_ ?_
            · intro w2 hB2
              refine DepsK_nil ?_
              refine WL_move rfl rfl ?_
              refine WL_nil ?_
              exact Fin1_val (Below.refl _ _) rfl rfl ⟨rfl, rfl⟩
            refine Steps_cons ?_ ?_
            · intro w2 hB2
              refine DepsK_nil ?_
              refine WL_move rfl rfl ?_
              refine WL_nil ?_
              exact Fin1_val (Below.refl _ _) rfl rfl ⟨rfl, rfl⟩
            refine Steps_cons ?_ ?_
            · intro w2 hB2
              refine DepsK_cons rfl rfl ?_
              rintro _ _ ⟨rfl, rfl⟩
              refine DepsK_cons rfl rfl ?_
              rintro _ _ ⟨rfl, rfl⟩
              refine DepsK_nil ?_
              refine WL_index Try.underlying51 ty108 g1 hx1 rfl rfl rfl (fun b1 o1 h1 => ?_)
              refine WL_nil ?_
              exact Fin1_val (Below.refl _ _) rfl rfl ⟨rfl, _, _, rfl, h1⟩
            refine Steps_cons ?_ ?_
            · intro w2 hB2
              refine DepsK_cons rfl rfl ?_
              rintro _ _ ⟨rfl, b1, o1, rfl, h1⟩
              refine DepsK_nil ?_
              refine WL_load ty108 h1 (hC1.keep.then hB2) rfl rfl (fun v3 h4 => ?_)
              refine WL_nil ?_
              exact Fin1_val (Below.refl _ _) rfl rfl ⟨rfl, h4⟩
            refine Steps_cons ?_ ?_
            · intro w2 hB2
              refine DepsK_nil ?_
              refine WL_move rfl rfl ?_
              refine WL_nil ?_
              exact Fin1_val (Below.refl _ _) rfl rfl ⟨rfl, rfl⟩
            refine Steps_cons ?_ ?_
            · intro w2 hB2
              refine DepsK_nil ?_
              refine WL_move rfl rfl ?_
              refine WL_nil ?_
              exact Fin1_val (Below.refl _ _) rfl rfl ⟨rfl, rfl⟩
            refine Steps_cons ?_ ?_
            · intro w2 hB2
              refine DepsK_cons rfl rfl ?_
              rintro _ _ ⟨rfl, rfl⟩
              refine DepsK_cons rfl rfl ?_
              rintro _ _ ⟨rfl, rfl⟩
              refine DepsK_nil ?_
              refine WL_index Try.underlying51 ty108 g2 hx2 rfl rfl rfl (fun b2 o2 h5 => ?_)
              refine WL_nil ?_
              exact Fin1_val (Below.refl _ _) rfl rfl ⟨rfl, _, _, rfl, h5⟩
            refine Steps_cons ?_ ?_
            · intro w2 hB2
              refine DepsK_cons rfl rfl ?_
              rintro _ _ ⟨rfl, b2, o2, rfl, h5⟩
              refine DepsK_nil ?_
              refine WL_load ty108 h5 (hC1.keep.then hB2) rfl rfl (fun v6 h8 => ?_)
              refine WL_nil ?_
              exact Fin1_val (Below.refl _ _) rfl rfl ⟨rfl, h8⟩
            exact Steps_nil
          · intro w3 hB3
            refine AllK_cons rfl ?_
            rintro _ _ ⟨rfl, rfl⟩
            refine AllK_cons rfl ?_
            rintro _ _ ⟨rfl, rfl⟩
            refine AllK_cons rfl ?_
            rintro _ _ ⟨rfl, b1, o1, rfl, h1⟩
            refine AllK_cons rfl ?_
            rintro v3 _ ⟨rfl, h4⟩
            obtain ⟨v2, rfl, h3⟩ := ro_st108 h4
            refine AllK_cons rfl ?_
            rintro _ _ ⟨rfl, rfl⟩
            refine AllK_cons rfl ?_
            rintro _ _ ⟨rfl, rfl⟩
            refine AllK_cons rfl ?_
            rintro _ _ ⟨rfl, b2, o2, rfl, h5⟩
            refine AllK_cons rfl ?_
            rintro v6 _ ⟨rfl, h8⟩
            obtain ⟨v5, rfl, h7⟩ := ro_st108 h8
            refine AllK_nil ?_
            intro hn1 hb1
            have hC2 := hC1.grow hB3
            obtain ⟨x4, hr2, hL1⟩ := bind_some hL1
            refine WL_call Try.call92 rfl rfl (c_Q_eqFact x2 v2 (h3.now hC2.keep) x3 v5 (h7.now hC2.keep) x4 hr2) ?_
            intro _ w4 hv1
            obtain ⟨rfl, hB4⟩ := res_bool hv1
            have hC3 := hC2.grow hB4
            refine WL_not rfl rfl ?_
            refine WL_nil ?_
            refine nrm_normal ?_
            refine W_cond rfl (fun hc3 => ?_) (fun hc3 => ?_)
            · replace hL1 := ite_t hL1 hc3
              refine W_seq_reg ?_
              refine WL_assign rfl rfl ?_
              refine WL_nil ?_
              refine W_ret ?_
              refine blk_ret ?_
              refine nrm_ret ?_
              refine nrm_ret ?_
              refine blk_ret ?_
              refine nrm_ret ?_
              refine nrm_ret ?_
              have hq2 := Option.some.inj hL1
              subst hq2
              dsimp only at hF
              have hq3 := Option.some.inj hF
              subst hq3
              refine fn_ret1 rfl rfl ?_
              exact ⟨_, rfl, bool_res hC3 _⟩
            · replace hL1 := ite_f hL1 hc3
              refine W_skip ?_
              refine blk_normal ?_
              refine nrm_normal ?_
              refine W_reg ?_
              refine WL_move rfl rfl ?_
              refine WL_add rfl rfl rfl ?_
              refine WL_assign rfl rfl ?_
              refine WL_nil ?_
              refine nrm_sub (l' := [(0, u1), (1, u2), (5, (.int .i64 (w64 (x1 + 1))))]) ⟨rfl, rfl, rfl, trivial⟩ ?_
              exact ⟨k1, Nat.lt_succ_self _, w64 (x1 + 1), rfl, (((Keep.of hB1).then hB3).then hB4).below, hC3, hL1⟩
        · replace hL1 := ite_f hL1 hc2
          refine W_exit ?_
          refine nrm_exit ?_
          refine nrm_exit ?_
          refine blk_exit ?_
          have hq4 := Option.some.inj hL1
          subst hq4
          refine nrm_sub (l' := []) trivial ?_
          exact ⟨rfl, rfl, (Keep.of hB1).below, hC1⟩
    · rintro l2 _ w5 hs2 ⟨rfl, rfl, hB5, hC4⟩
      try dsimp only at hF
      refine nrm_sub' hs2 ?_
      clear hs2
      refine W_seq_reg ?_
      refine WL_assign rfl rfl ?_
      refine WL_nil ?_
      refine W_ret ?_
      have hq5 := Option.some.inj hF
      subst hq5
      refine fn_ret1 rfl rfl ?_
      exact ⟨_, rfl, bool_res hC4 _⟩

theorem c_Q_heldFactS {w0 : World} (a1 : (List (Int × (List Int)))) (u1 : Value) (g1 : RO [] w0 u1 a1) (a2 : Int) (rr : Int) (hF : Q.heldFactS a1 a2 = some rr) :
    Calls Try.prog 41 [u1, (.int .i64 a2)].toArray w0 fun e w' => ∃ v, e = .returned v ∧ Res w0 rr v w' := by
  refine calls_of_W Try.func41 rfl rfl ?_
  have hC0 := Ctx.start w0
  unfold Q.heldFactS at hF
  refine W_seq_reg ?_
  refine WL_assign rfl rfl ?_
  refine WL_nil ?_
  refine W_seq ?_
  refine W_seq_reg ?_
  refine WL_assign rfl rfl ?_
  refine WL_nil ?_
  obtain ⟨r1, hr1, hF⟩ := bind_some hF
  refine W_norm (fun l w => ∃ x3 : Int, .inl x3 = r1 ∧ l = [(1, (.int .i64 x3))] ∧ Below w0.heap.size w0 w ∧ Ctx [] w0 w []) ?_ ?_
  · refine W_block ?_
    refine W.sub (l' := [(0, u1), (1, (.int .i64 a2)), (5, (.int .i64 0))]) ?_ ⟨rfl, rfl, rfl, trivial⟩
    refine W_loop (fun k l w => ∃ x1 : Int, ∃ x2 : Int, l = [(0, u1), (1, (.int .i64 x1)), (5, (.int .i64 x2))] ∧ Below w0.heap.size w0 w ∧ Ctx [] w0 w [] ∧ Q.heldFactS_l1 a1 k x1 x2 = some r1) FUEL ⟨a2, 0, rfl, (Below.refl _ _), hC0, hr1⟩ ?_
    clear hr1
    rintro k1 _ w1 ⟨x1, x2, rfl, hB1, hC1, hL1⟩
    cases k1 with
    | zero => rw [Q.heldFactS_l1] at hL1; cases hL1
    | succ k1 =>
      rw [Q.heldFactS_l1] at hL1
      refine W_seq ?_
      refine W_seq_reg ?_
      refine WL_move rfl rfl ?_
      refine WL_move rfl rfl ?_
      refine WL_len Try.underlying51 g1 rfl rfl ?_
      refine WL_lss rfl rfl rfl ?_
      refine WL_nil ?_
      refine W_cond rfl (fun hc1 => ?_) (fun hc1 => ?_)
      · replace hL1 := ite_t hL1 hc1
        refine W_skip ?_
        refine nrm_normal ?_
        refine W_seq ?_
        refine W_block ?_
        refine W_seq ?_
        refine W_seq_reg ?_
        refine WL_move rfl rfl ?_
        refine WL_move rfl rfl ?_
        obtain ⟨x4, hx1, hL1⟩ := bind_some hL1
        refine WL_index Try.underlying51 ty108 g1 hx1 rfl rfl rfl (fun b1 o1 h1 => ?_)
        refine WL_field Try.underlying108 rfl rfl (fun w => ⟨_, Try.sizeOf3 w⟩) rfl rfl ?_
        refine WL_load ty3 h1.fst hC1.keep rfl rfl (fun v1 h2 => ?_)
        obtain rfl := ro_int h2
        refine WL_move rfl rfl ?_
        refine WL_neq rfl rfl rfl ?_
        refine WL_nil ?_
        refine W_cond rfl (fun hc2 => ?_) (fun hc2 => ?_)
        · replace hL1 := ite_t hL1 hc2
          refine W_seq_reg ?_
          refine WL_assign rfl rfl ?_
          refine WL_nil ?_
          refine W_ret ?_
          refine nrm_ret ?_
          refine blk_ret ?_
          refine nrm_ret ?_
          refine nrm_ret ?_
          refine blk_ret ?_
          refine nrm_ret ?_
          refine nrm_ret ?_
          have hq1 := Option.some.inj hL1
          subst hq1
          dsimp only at hF
          have hq2 := Option.some.inj hF
          subst hq2
          refine fn_ret1 rfl rfl ?_
          exact ⟨_, rfl, int_res hC1 _⟩
        · replace hL1 := ite_f hL1 hc2
          refine W_skip ?_
          refine nrm_normal ?_
          refine W_seq_reg ?_
          refine WL_move rfl rfl ?_
          refine WL_add rfl rfl rfl ?_
          refine WL_assign rfl rfl ?_
          refine WL_nil ?_
          refine W_seq_reg ?_
          refine WL_move rfl rfl ?_
          refine WL_move rfl rfl ?_
          obtain ⟨x5, hx2, hL1⟩ := bind_some hL1
          refine WL_index Try.underlying51 ty108 g1 hx2 rfl rfl rfl (fun b2 o2 h3 => ?_)
          refine WL_field Try.underlying108 rfl rfl (fun w => ⟨_, Try.sizeOf27 w⟩) rfl rfl ?_
          refine WL_load ty27 h3.snd hC1.keep rfl rfl (fun v2 h4 => ?_)
          refine WL_move rfl rfl ?_
          obtain ⟨x6, hr2, hL1⟩ := bind_some hL1
          refine WL_call Try.call34 rfl rfl (c_Q_heldIntS x5.2 v2 (h4.now hC1.keep) (w64 (x1 + 1)) x6 hr2) ?_
          intro _ w2 hv1
          obtain ⟨rfl, hB2⟩ := res_int hv1
          have hC2 := hC1.grow hB2
          refine WL_assign rfl rfl ?_
          refine WL_nil ?_
          refine W_seq_reg ?_
          refine WL_move rfl rfl ?_
          refine WL_lss rfl rfl rfl ?_
          refine WL_nil ?_
          refine W_cond rfl (fun hc3 => ?_) (fun hc3 => ?_)
          · replace hL1 := ite_t hL1 hc3
            refine W_seq_reg ?_
            refine WL_assign rfl rfl ?_
            refine WL_nil ?_
            refine W_ret ?_
            refine blk_ret ?_
            refine nrm_ret ?_
            refine nrm_ret ?_
            refine blk_ret ?_
            refine nrm_ret ?_
            refine nrm_ret ?_
            have hq3 := Option.some.inj hL1
            subst hq3
            dsimp only at hF
            have hq4 := Option.some.inj hF
            subst hq4
            refine fn_ret1 rfl rfl ?_
            exact ⟨_, rfl, int_res hC2 _⟩
          · replace hL1 := ite_f hL1 hc3
            refine W_skip ?_
            refine blk_normal ?_
            refine nrm_normal ?_
            refine W_reg ?_
            refine WL_move rfl rfl ?_
            refine WL_add rfl rfl rfl ?_
            refine WL_assign rfl rfl ?_
            refine WL_nil ?_
            refine nrm_sub (l' := [(0, u1), (1, (.int .i64 x6)), (5, (.int .i64 (w64 (x2 + 1))))]) ⟨rfl, rfl, rfl, trivial⟩ ?_
            exact ⟨k1, Nat.lt_succ_self _, x6, w64 (x2 + 1), rfl, ((Keep.of hB1).then hB2).below, hC2, hL1⟩
      · replace hL1 := ite_f hL1 hc1
        refine W_exit ?_
        refine nrm_exit ?_
        refine nrm_exit ?_
        refine blk_exit ?_
        have hq5 := Option.some.inj hL1
        subst hq5
        refine nrm_sub (l' := [(1, (.int .i64 x1))]) ⟨rfl, trivial⟩ ?_
        exact ⟨x1, rfl, rfl, (Keep.of hB1).below, hC1⟩
  · rintro l2 _ w3 hs2 ⟨x3, rfl, rfl, hB3, hC3⟩
    try dsimp only at hF
    refine nrm_sub' hs2 ?_
    clear hs2
    refine W_seq_reg ?_
    refine WL_move rfl rfl ?_
    refine WL_assign rfl rfl ?_
    refine WL_nil ?_
    refine W_ret ?_
    have hq6 := Option.some.inj hF
    subst hq6
    refine fn_ret1 rfl rfl ?_
    exact ⟨_, rfl, int_res hC3 _⟩

theorem c_S_l26Open {w0 : World} (a1 : Str) (rr : Bool) (hF : S.l26Open a1 = some rr) :
    Calls Try.prog 94 [(sv a1)].toArray w0 fun e w' => ∃ v, e = .returned v ∧ Res w0 rr v w' := by
  refine calls_of_W Try.func94 rfl rfl ?_
  have hC0 := Ctx.start w0
  unfold S.l26Open at hF
  refine W_seq_reg ?_
  refine WL_assign rfl rfl ?_
  refine WL_nil ?_
  refine W_seq ?_
  refine W_seq_reg ?_
  refine WL_assign rfl rfl ?_
  refine WL_nil ?_
  obtain ⟨r1, hr1, hF⟩ := bind_some hF
  refine W_norm (fun l w => .inl () = r1 ∧ l = [] ∧ Below w0.heap.size w0 w ∧ Ctx [] w0 w []) ?_ ?_
  · refine W_block ?_
    refine W.sub (l' := [(0, (sv a1)), (3, (.int .i64 0))]) ?_ ⟨rfl, rfl, trivial⟩
    refine W_loop (fun k l w => ∃ x1 : Int, l = [(0, (sv a1)), (3, (.int .i64 x1))] ∧ Below w0.heap.size w0 w ∧ Ctx [] w0 w [] ∧ S.l26Open_l1 a1 k x1 = some r1) FUEL ⟨0, rfl, (Below.refl _ _), hC0, hr1⟩ ?_
    clear hr1
    rintro k1 _ w1 ⟨x1, rfl, hB1, hC1, hL1⟩
    cases k1 with
    | zero => rw [S.l26Open_l1] at hL1; cases hL1
    | succ k1 =>
      rw [S.l26Open_l1] at hL1
      refine W_seq ?_
      refine W_seq_reg ?_
      refine WL_move rfl rfl ?_
      refine WL_move rfl rfl ?_
      refine WL_len_str Try.underlying9 rfl rfl ?_
      refine WL_lss rfl rfl rfl ?_
      refine WL_nil ?_
      refine W_cond rfl (fun hc1 => ?_) (fun hc1 => ?_)
      · replace hL1 := ite_t hL1 hc1
        refine W_skip ?_
        refine nrm_normal ?_
        refine W_seq ?_
        refine W_block ?_
        refine W_seq_reg ?_
        refine WL_move rfl rfl ?_
        refine WL_move rfl rfl ?_
        obtain ⟨x2, hx1, hL1⟩ := bind_some hL1
        refine WL_index_str Try.underlying9 hx1 rfl rfl rfl ?_
        refine WL_lss rfl rfl rfl ?_
        refine WL_nil ?_
        refine W_cond rfl (fun hc2 => ?_) (fun hc2 => ?_)
        · replace hL1 := ite_t hL1 hc2
          refine W_seq_reg ?_
          refine WL_assign rfl rfl ?_
          refine WL_nil ?_
          refine W_ret ?_
          refine blk_ret ?_
          refine nrm_ret ?_
          refine nrm_ret ?_
          refine blk_ret ?_
          refine nrm_ret ?_
          refine nrm_ret ?_
          have hq1 := Option.some.inj hL1
          subst hq1
          dsimp only at hF
          have hq2 := Option.some.inj hF
          subst hq2
          refine fn_ret1 rfl rfl ?_
          exact ⟨_, rfl, bool_res hC1 _⟩
        · replace hL1 := ite_f hL1 hc2
          refine W_skip ?_
          refine blk_normal ?_
          refine nrm_normal ?_
          refine W_reg ?_
          refine WL_move rfl rfl ?_
          refine WL_add rfl rfl rfl ?_
          refine WL_assign rfl rfl ?_
          refine WL_nil ?_
          refine nrm_sub (l' := [(0, (sv a1)), (3, (.int .i64 (w64 (x1 + 1))))]) ⟨rfl, rfl, trivial⟩ ?_
          exact ⟨k1, Nat.lt_succ_self _, w64 (x1 + 1), rfl, (Keep.of hB1).below, hC1, hL1⟩
      · replace hL1 := ite_f hL1 hc1
        refine W_exit ?_
        refine nrm_exit ?_
        refine nrm_exit ?_
        refine blk_exit ?_
        have hq3 := Option.some.inj hL1
        subst hq3
        refine nrm_sub (l' := []) trivial ?_
        exact ⟨rfl, rfl, (Keep.of hB1).below, hC1⟩
  · rintro l2 _ w2 hs2 ⟨rfl, rfl, hB2, hC2⟩
    try dsimp only at hF
    refine nrm_sub' hs2 ?_
    clear hs2
    refine W_seq_reg ?_
    refine WL_assign rfl rfl ?_
    refine WL_nil ?_
    refine W_ret ?_
    have hq4 := Option.some.inj hF
    subst hq4
    refine fn_ret1 rfl rfl ?_
    exact ⟨_, rfl, bool_res hC2 _⟩

theorem c_M_isOpenLength {w0 : World} (a1 : Str) (rr : Bool) (hF : M.isOpenLength a1 = some rr) :
    Calls Try.prog 96 [(sv a1)].toArray w0 fun e w' => ∃ v, e = .returned v ∧ Res w0 rr v w' := by
  refine calls_of_W Try.func96 rfl rfl ?_
  have hC0 := Ctx.start w0
  unfold M.isOpenLength at hF
  refine W_seq_reg ?_
  refine WL_assign rfl rfl ?_
  refine WL_nil ?_
  refine W_seq ?_
  refine W_seq_reg ?_
  refine WL_move rfl rfl ?_
  refine WL_len_str Try.underlying9 rfl rfl ?_
  refine WL_move rfl rfl ?_
  refine WL_nil ?_
  obtain ⟨r1, hr1, hF⟩ := bind_some hF
  refine W_norm (fun l w => .inl () = r1 ∧ l = [(0, (sv a1))] ∧ Below w0.heap.size w0 w ∧ Ctx [] w0 w []) ?_ ?_
  · refine W_block ?_
    refine W.sub (l' := [(0, (sv a1)), (5, (.int .i64 (List.length a1 : Int))), (6, (.int .i64 0))]) ?_ ⟨rfl, rfl, rfl, trivial⟩
    refine W_loop (fun k l w => ∃ x1 : Int, l = [(0, (sv a1)), (5, (.int .i64 (List.length a1 : Int))), (6, (.int .i64 x1))] ∧ Below w0.heap.size w0 w ∧ Ctx [] w0 w [] ∧ M.isOpenLength_l1 a1 k x1 = some r1) FUEL ⟨0, rfl, (Below.refl _ _), hC0, hr1⟩ ?_
    clear hr1
    rintro k1 _ w1 ⟨x1, rfl, hB1, hC1, hL1⟩
    cases k1 with
    | zero => rw [M.isOpenLength_l1] at hL1; cases hL1
    | succ k1 =>
      rw [M.isOpenLength_l1] at hL1
      refine W_seq_reg ?_
      refine WL_lss rfl rfl rfl ?_
      refine WL_nil ?_
      refine W_seq ?_
      refine W_cond rfl (fun hc1 => ?_) (fun hc1 => ?_)
      · replace hL1 := ite_t hL1 hc1
        refine W_skip ?_
        refine nrm_normal ?_
        refine W_seq ?_
        refine W_block ?_
        refine W_seq_reg ?_
        refine WL_move rfl rfl ?_
        refine WL_assign rfl rfl ?_
        refine WL_nil ?_
        refine W_seq_reg ?_
        refine WL_move rfl rfl ?_
        refine WL_move rfl rfl ?_
        obtain ⟨x2, hx1, hL1⟩ := bind_some hL1
        refine WL_index_str Try.underlying9 hx1 rfl rfl rfl ?_
        refine WL_lss rfl rfl rfl ?_
        refine WL_nil ?_
        refine W_cond rfl (fun hc2 => ?_) (fun hc2 => ?_)
        · replace hL1 := ite_t hL1 hc2
          refine W_seq_reg ?_
          refine WL_assign rfl rfl ?_
          refine WL_nil ?_
          refine W_ret ?_
          refine blk_ret ?_
          refine nrm_ret ?_
          refine nrm_ret ?_
          refine blk_ret ?_
          refine nrm_ret ?_
          refine nrm_ret ?_
          have hq1 := Option.some.inj hL1
          subst hq1
          dsimp only at hF
          have hq2 := Option.some.inj hF
          subst hq2
          refine fn_ret1 rfl rfl ?_
          exact ⟨_, rfl, bool_res hC1 _⟩
        · replace hL1 := ite_f hL1 hc2
          refine W_skip ?_
          refine blk_normal ?_
          refine nrm_normal ?_
          refine W_reg ?_
          refine WL_add rfl rfl rfl ?_
          refine WL_move rfl rfl ?_
          refine WL_nil ?_
          refine nrm_sub (l' := [(0, (sv a1)), (5, (.int .i64 (List.length a1 : Int))), (6, (.int .i64 (w64 (x1 + 1))))]) ⟨rfl, rfl, rfl, trivial⟩ ?_
          exact ⟨k1, Nat.lt_succ_self _, w64 (x1 + 1), rfl, (Keep.of hB1).below, hC1, hL1⟩
      · replace hL1 := ite_f hL1 hc1
        refine W_exit ?_
        refine nrm_exit ?_
        refine nrm_exit ?_
        refine blk_exit ?_
        have hq3 := Option.some.inj hL1
        subst hq3
        refine nrm_sub (l' := [(0, (sv a1))]) ⟨rfl, trivial⟩ ?_
        exact ⟨rfl, rfl, (Keep.of hB1).below, hC1⟩
  · rintro l2 _ w2 hs2 ⟨rfl, rfl, hB2, hC2⟩
    try dsimp only at hF
    refine nrm_sub' hs2 ?_
    clear hs2
    refine W_seq_reg ?_
    refine WL_move rfl rfl ?_
    refine WL_len_str Try.underlying9 rfl rfl ?_
    refine WL_leq rfl rfl rfl ?_
    refine WL_assign rfl rfl ?_
    refine WL_nil ?_
    refine W_ret ?_
    have hq4 := Option.some.inj hF
    subst hq4
    refine fn_ret1 rfl rfl ?_
    exact ⟨_, rfl, bool_res hC2 _⟩

theorem c_Q_eqStringS {w0 : World} (a1 : (List Str)) (u1 : Value) (g1 : RO [] w0 u1 a1) (a2 : (List Str)) (u2 : Value) (g2 : RO [] w0 u2 a2) (rr : Bool) (hF : Q.eqStringS a1 a2 = some rr) :
    Calls Try.prog 44 [u1, u2].toArray w0 fun e w' => ∃ v, e = .returned v ∧ Res w0 rr v w' := by
  refine calls_of_W Try.func44 rfl rfl ?_
  have hC0 := Ctx.start w0
  unfold Q.eqStringS at hF
  refine W_seq_reg ?_
  refine WL_assign rfl rfl ?_
  refine WL_nil ?_
  refine W_seq ?_
  refine W_seq_reg ?_
  refine WL_move rfl rfl ?_
  refine WL_len Try.underlying58 g1 rfl rfl ?_
  refine WL_move rfl rfl ?_
  refine WL_len Try.underlying58 g2 rfl rfl ?_
  refine WL_neq rfl rfl rfl ?_
  refine WL_nil ?_
  refine W_cond rfl (fun hc1 => ?_) (fun hc1 => ?_)
  · replace hF := ite_t hF hc1
    refine W_seq_reg ?_
    refine WL_assign rfl rfl ?_
    refine WL_nil ?_
    refine W_ret ?_
    refine nrm_ret ?_
    have hq1 := Option.some.inj hF
    subst hq1
    refine fn_ret1 rfl rfl ?_
    exact ⟨_, rfl, bool_res hC0 _⟩
  · replace hF := ite_f hF hc1
    refine W_skip ?_
    refine nrm_normal ?_
    refine W_seq ?_
    refine W_seq_reg ?_
    refine WL_assign rfl rfl ?_
    refine WL_nil ?_
    obtain ⟨r1, hr1, hF⟩ := bind_some hF
    refine W_norm (fun l w => .inl () = r1 ∧ l = [] ∧ Below w0.heap.size w0 w ∧ Ctx [] w0 w []) ?_ ?_
    · refine W_block ?_
      refine W.sub (l' := [(0, u1), (1, u2), (5, (.int .i64 0))]) ?_ ⟨rfl, rfl, rfl, trivial⟩
      refine W_loop (fun k l w => ∃ x1 : Int, l = [(0, u1), (1, u2), (5, (.int .i64 x1))] ∧ Below w0.heap.size w0 w ∧ Ctx [] w0 w [] ∧ Q.eqStringS_l1 a1 a2 k x1 = some r1) FUEL ⟨0, rfl, (Below.refl _ _), hC0, hr1⟩ ?_
      clear hr1
      rintro k1 _ w1 ⟨x1, rfl, hB1, hC1, hL1⟩
      cases k1 with
      | zero => rw [Q.eqStringS_l1] at hL1; cases hL1
      | succ k1 =>
        rw [Q.eqStringS_l1] at hL1
        refine W_seq ?_
        refine W_seq_reg ?_
        refine WL_move rfl rfl ?_
        refine WL_move rfl rfl ?_
        refine WL_len Try.underlying58 g1 rfl rfl ?_
        refine WL_lss rfl rfl rfl ?_
        refine WL_nil ?_
        refine W_cond rfl (fun hc2 => ?_) (fun hc2 => ?_)
        · replace hL1 := ite_t hL1 hc2
          refine W_skip ?_
          refine nrm_normal ?_
          refine W_seq ?_
          refine W_block ?_
          refine W_seq ?_
          obtain ⟨x2, hx1, hL1⟩ := bind_some hL1
          obtain ⟨x3, hx2, hL1⟩ := bind_some hL1
          refine W.sub (l' := [(0, u1), (1, u2), (5, (.int .i64 x1)), (11, (.int .i64 x1)), (12, u1), (13, (.int .i64 (List.length a1 : Int))), (14, (.bool (decide (x1 < (List.length a1 : Int)))))]) ?_ ⟨rfl, rfl, rfl, rfl, rfl, rfl, rfl, trivial⟩
          refine W_any 8 [PV.val u1, PV.val (.int .i64 x1), PV.at [] w0 x2, PV.val (sv x2), PV.val u2, PV.val (.int .i64 x1), PV.at [] w0 x3, PV.val (sv x3)] [[], [], [0, 1], [2], [], [], [4, 5], [6]] hmix (by kernel_rfl) rfl ?_ ?_
          · refine Steps_cons ?_ ?_
            · intro w2 hB2
              refine DepsK_nil ?_
              refine WL_move rfl rfl ?_
              refine WL_nil ?_
              exact Fin1_val (Below.refl _ _) rfl rfl ⟨rfl, rfl⟩
            refine Steps_cons ?_ ?_
            · intro w2 hB2
              refine DepsK_nil ?_
              refine WL_move rfl rfl ?_
              refine WL_nil ?_
              exact Fin1_val (Below.refl _ _) rfl rfl ⟨rfl, rfl⟩
            refine Steps_cons ?_ ?_
            · intro w2 hB2
              refine DepsK_cons rfl rfl ?_
              rintro _ _ ⟨rfl, rfl⟩
              refine DepsK_cons rfl rfl ?_
              rintro _ _ ⟨rfl, rfl⟩
              refine DepsK_nil ?_
              refine WL_index Try.underlying58 ty9 g1 hx1 rfl rfl rfl (fun b1 o1 h1 => ?_)
              refine WL_nil ?_
              exact Fin1_val (Below.refl _ _) rfl rfl ⟨rfl, _, _, rfl, h1⟩
            refine Steps_cons ?_ ?_
            · intro w2 hB2
              refine DepsK_cons rfl rfl ?_
              rintro _ _ ⟨rfl, b1, o1, rfl, h1⟩
              refine DepsK_nil ?_
              refine WL_load ty9 h1 (hC1.keep.then hB2) rfl rfl (fun v1 h2 => ?_)
              obtain rfl := ro_str h2
              refine WL_nil ?_
              exact Fin1_val (Below.refl _ _) rfl rfl ⟨rfl, rfl⟩
            refine Steps_cons ?_ ?_
            · intro w2 hB2
              refine DepsK_nil ?_
              refine WL_move rfl rfl ?_
              refine WL_nil ?_
              exact Fin1_val (Below.refl _ _) rfl rfl ⟨rfl, rfl⟩
            refine Steps_cons ?_ ?_
            · intro w2 hB2
              refine DepsK_nil ?_
              refine WL_move rfl rfl ?_
              refine WL_nil ?_
              exact Fin1_val (Below.refl _ _) rfl rfl ⟨rfl, rfl⟩
            refine Steps_cons ?_ ?_
            · intro w2 hB2
              refine DepsK_cons rfl rfl ?_
              rintro _ _ ⟨rfl, rfl⟩
              refine DepsK_cons rfl rfl ?_
              rintro _ _ ⟨rfl, rfl⟩
              refine DepsK_nil ?_
              refine WL_index Try.underlying58 ty9 g2 hx2 rfl rfl rfl (fun b2 o2 h3 => ?_)
              refine WL_nil ?_
              exact Fin1_val (Below.refl _ _) rfl rfl ⟨rfl, _, _, rfl, h3⟩
            refine Steps_cons ?_ ?_
            · intro w2 hB2
              refine DepsK_cons rfl rfl ?_
              rintro _ _ ⟨rfl, b2, o2, rfl, h3⟩
              refine DepsK_nil ?_
              refine WL_load ty9 h3 (hC1.keep.then hB2) rfl rfl (fun v2 h4 => ?_)
              obtain rfl := ro_str h4
              refine WL_nil ?_
              exact Fin1_val (Below.refl _ _) rfl rfl ⟨rfl, rfl⟩
            exact Steps_nil
          · intro w3 hB3
            refine AllK_cons rfl ?_
            rintro _ _ ⟨rfl, rfl⟩
            refine AllK_cons rfl ?_
            rintro _ _ ⟨rfl, rfl⟩
            refine AllK_cons rfl ?_
            rintro _ _ ⟨rfl, b1, o1, rfl, h1⟩
            refine AllK_cons rfl ?_
            rintro _ _ ⟨rfl, rfl⟩
            refine AllK_cons rfl ?_
            rintro _ _ ⟨rfl, rfl⟩
            refine AllK_cons rfl ?_
            rintro _ _ ⟨rfl, rfl⟩
            refine AllK_cons rfl ?_
            rintro _ _ ⟨rfl, b2, o2, rfl, h3⟩
            refine AllK_cons rfl ?_
            rintro _ _ ⟨rfl, rfl⟩
            refine AllK_nil ?_
            intro hn1 hb1
            have hC2 := hC1.grow hB3
            refine WL_str_neq rfl rfl rfl ?_
            refine WL_nil ?_
            refine nrm_normal ?_
            refine W_cond rfl (fun hc3 => ?_) (fun hc3 => ?_)
            · replace hL1 := ite_t hL1 hc3
              refine W_seq_reg ?_
              refine WL_assign rfl rfl ?_
              refine WL_nil ?_
              refine W_ret ?_
              refine blk_ret ?_
              refine nrm_ret ?_
              refine nrm_ret ?_
              refine blk_ret ?_
              refine nrm_ret ?_
              refine nrm_ret ?_
              have hq2 := Option.some.inj hL1
              subst hq2
              dsimp only at hF
              have hq3 := Option.some.inj hF
              subst hq3
              refine fn_ret1 rfl rfl ?_
              exact ⟨_, rfl, bool_res hC2 _⟩
            · replace hL1 := ite_f hL1 hc3
              refine W_skip ?_
              refine blk_normal ?_
              refine nrm_normal ?_
              refine W_reg ?_
              refine WL_move rfl rfl ?_
              refine WL_add rfl rfl rfl ?_
              refine WL_assign rfl rfl ?_
              refine WL_nil ?_
              refine nrm_sub (l' := [(0, u1), (1, u2), (5, (.int .i64 (w64 (x1 + 1))))]) ⟨rfl, rfl, rfl, trivial⟩ ?_
              exact ⟨k1, Nat.lt_succ_self _, w64 (x1 + 1), rfl, ((Keep.of hB1).then hB3).below, hC2, hL1⟩
        · replace hL1 := ite_f hL1 hc2
          refine W_exit ?_
          refine nrm_exit ?_
          refine nrm_exit ?_
          refine blk_exit ?_
          have hq4 := Option.some.inj hL1
          subst hq4
          refine nrm_sub (l' := []) trivial ?_
          exact ⟨rfl, rfl, (Keep.of hB1).below, hC1⟩
    · rintro l2 _ w4 hs2 ⟨rfl, rfl, hB4, hC3⟩
      try dsimp only at hF
      refine nrm_sub' hs2 ?_
      clear hs2
      refine W_seq_reg ?_
      refine WL_assign rfl rfl ?_
      refine WL_nil ?_
      refine W_ret ?_
      have hq5 := Option.some.inj hF
      subst hq5
      refine fn_ret1 rfl rfl ?_
      exact ⟨_, rfl, bool_res hC3 _⟩

theorem c_Q_szFactSS {w0 : World} (a1 : (List (List (Int × (List Int))))) (u1 : Value) (g1 : RO [] w0 u1 a1) (a2 : Int) (rr : Int) (hF : Q.szFactSS a1 a2 = some rr) :
    Calls Try.prog 47 [u1, (.int .i64 a2)].toArray w0 fun e w' => ∃ v, e = .returned v ∧ Res w0 rr v w' := by
  refine calls_of_W Try.func47 rfl rfl ?_
  have hC0 := Ctx.start w0
  unfold Q.szFactSS at hF
  refine W_seq_reg ?_
  refine WL_assign rfl rfl ?_
  refine WL_nil ?_
  refine W_seq_reg ?_
  refine WL_move rfl rfl ?_
  refine WL_move rfl rfl ?_
  refine WL_len Try.underlying63 g1 rfl rfl ?_
  refine WL_sub rfl rfl rfl ?_
  refine WL_assign rfl rfl ?_
  refine WL_nil ?_
  refine W_seq ?_
  refine W_seq_reg ?_
  refine WL_move rfl rfl ?_
  refine WL_lss rfl rfl rfl ?_
  refine WL_nil ?_
  refine W_cond rfl (fun hc1 => ?_) (fun hc1 => ?_)
  · replace hF := ite_t hF hc1
    refine W_seq_reg ?_
    refine WL_assign rfl rfl ?_
    refine WL_nil ?_
    refine W_ret ?_
    refine nrm_ret ?_
    have hq1 := Option.some.inj hF
    subst hq1
    refine fn_ret1 rfl rfl ?_
    exact ⟨_, rfl, int_res hC0 _⟩
  · replace hF := ite_f hF hc1
    refine W_skip ?_
    refine nrm_normal ?_
    refine W_seq ?_
    refine W_seq_reg ?_
    refine WL_assign rfl rfl ?_
    refine WL_nil ?_
    obtain ⟨r1, hr1, hF⟩ := bind_some hF
    refine W_norm (fun l w => ∃ x3 : Int, .inl x3 = r1 ∧ l = [(1, (.int .i64 x3))] ∧ Below w0.heap.size w0 w ∧ Ctx [] w0 w []) ?_ ?_
    · refine W_block ?_
      refine W.sub (l' := [(0, u1), (1, (.int .i64 (w64 (a2 - (List.length a1 : Int))))), (5, (.int .i64 0))]) ?_ ⟨rfl, rfl, rfl, trivial⟩
      refine W_loop (fun k l w => ∃ x1 : Int, ∃ x2 : Int, l = [(0, u1), (1, (.int .i64 x1)), (5, (.int .i64 x2))] ∧ Below w0.heap.size w0 w ∧ Ctx [] w0 w [] ∧ Q.szFactSS_l1 a1 k x1 x2 = some r1) FUEL ⟨w64 (a2 - (List.length a1 : Int)), 0, rfl, (Below.refl _ _), hC0, hr1⟩ ?_
      clear hr1
      rintro k1 _ w1 ⟨x1, x2, rfl, hB1, hC1, hL1⟩
      cases k1 with
      | zero => rw [Q.szFactSS_l1] at hL1; cases hL1
      | succ k1 =>
        rw [Q.szFactSS_l1] at hL1
        refine W_seq ?_
        refine W_seq_reg ?_
        refine WL_move rfl rfl ?_
        refine WL_move rfl rfl ?_
        refine WL_len Try.underlying63 g1 rfl rfl ?_
        refine WL_lss rfl rfl rfl ?_
        refine WL_nil ?_
        refine W_cond rfl (fun hc2 => ?_) (fun hc2 => ?_)
        · replace hL1 := ite_t hL1 hc2
          refine W_skip ?_
          refine nrm_normal ?_
          refine W_seq ?_
          refine W_block ?_
          refine W_seq_reg ?_
          refine WL_move rfl rfl ?_
          refine WL_move rfl rfl ?_
          obtain ⟨x4, hx1, hL1⟩ := bind_some hL1
          refine WL_index Try.underlying63 ty49 g1 hx1 rfl rfl rfl (fun b1 o1 h1 => ?_)
          refine WL_load ty49 h1 hC1.keep rfl rfl (fun v1 h2 => ?_)
          refine WL_move rfl rfl ?_
          obtain ⟨x5, hr2, hL1⟩ := bind_some hL1
          refine WL_call Try.call35 rfl rfl (c_Q_szFactS x4 v1 (h2.now hC1.keep) x1 x5 hr2) ?_
          intro _ w2 hv1
          obtain ⟨rfl, hB2⟩ := res_int hv1
          have hC2 := hC1.grow hB2
          refine WL_assign rfl rfl ?_
          refine WL_nil ?_
          refine W_seq_reg ?_
          refine WL_move rfl rfl ?_
          refine WL_lss rfl rfl rfl ?_
          refine WL_nil ?_
          refine W_cond rfl (fun hc3 => ?_) (fun hc3 => ?_)
          · replace hL1 := ite_t hL1 hc3
            refine W_seq_reg ?_
            refine WL_assign rfl rfl ?_
            refine WL_nil ?_
            refine W_ret ?_
            refine blk_ret ?_
            refine nrm_ret ?_
            refine nrm_ret ?_
            refine blk_ret ?_
            refine nrm_ret ?_
            refine nrm_ret ?_
            have hq2 := Option.some.inj hL1
            subst hq2
            dsimp only at hF
            have hq3 := Option.some.inj hF
            subst hq3
            refine fn_ret1 rfl rfl ?_
            exact ⟨_, rfl, int_res hC2 _⟩
          · replace hL1 := ite_f hL1 hc3
            refine W_skip ?_
            refine blk_normal ?_
            refine nrm_normal ?_
            refine W_reg ?_
            refine WL_move rfl rfl ?_
            refine WL_add rfl rfl rfl ?_
            refine WL_assign rfl rfl ?_
            refine WL_nil ?_
            refine nrm_sub (l' := [(0, u1), (1, (.int .i64 x5)), (5, (.int .i64 (w64 (x2 + 1))))]) ⟨rfl, rfl, rfl, trivial⟩ ?_
            exact ⟨k1, Nat.lt_succ_self _, x5, w64 (x2 + 1), rfl, ((Keep.of hB1).then hB2).below, hC2, hL1⟩
        · replace hL1 := ite_f hL1 hc2
          refine W_exit ?_
          refine nrm_exit ?_
          refine nrm_exit ?_
          refine blk_exit ?_
          have hq4 := Option.some.inj hL1
          subst hq4
          refine nrm_sub (l' := [(1, (.int .i64 x1))]) ⟨rfl, trivial⟩ ?_
          exact ⟨x1, rfl, rfl, (Keep.of hB1).below, hC1⟩
    · rintro l2 _ w3 hs2 ⟨x3, rfl, rfl, hB3, hC3⟩
      try dsimp only at hF
      refine nrm_sub' hs2 ?_
      clear hs2
      refine W_seq_reg ?_
      refine WL_move rfl rfl ?_
      refine WL_assign rfl rfl ?_
      refine WL_nil ?_
      refine W_ret ?_
      have hq5 := Option.some.inj hF
      subst hq5
      refine fn_ret1 rfl rfl ?_
      exact ⟨_, rfl, int_res hC3 _⟩

theorem c_Q_eqFactSS {w0 : World} (a1 : (List (List (Int × (List Int))))) (u1 : Value) (g1 : RO [] w0 u1 a1) (a2 : (List (List (Int × (List Int))))) (u2 : Value) (g2 : RO [] w0 u2 a2) (rr : Bool) (hF : Q.eqFactSS a1 a2 = some rr) :
    Calls Try.prog 51 [u1, u2].toArray w0 fun e w' => ∃ v, e = .returned v ∧ Res w0 rr v w' := by
  refine calls_of_W Try.func51 rfl rfl ?_
  have hC0 := Ctx.start w0
  unfold Q.eqFactSS at hF
  refine W_seq_reg ?_
  refine WL_assign rfl rfl ?_
  refine WL_nil ?_
  refine W_seq ?_
  refine W_seq_reg ?_
  refine WL_move rfl rfl ?_
  refine WL_len Try.underlying66 g1 rfl rfl ?_
  refine WL_move rfl rfl ?_
  refine WL_len Try.underlying66 g2 rfl rfl ?_
  refine WL_neq rfl rfl rfl ?_
  refine WL_nil ?_
  refine W_cond rfl (fun hc1 => ?_) (fun hc1 => ?_)
  · replace hF := ite_t hF hc1
    refine W_seq_reg ?_
    refine WL_assign rfl rfl ?_
    refine WL_nil ?_
    refine W_ret ?_
    refine nrm_ret ?_
    have hq1 := Option.some.inj hF
    subst hq1
    refine fn_ret1 rfl rfl ?_
    exact ⟨_, rfl, bool_res hC0 _⟩
  · replace hF := ite_f hF hc1
    refine W_skip ?_
    refine nrm_normal ?_
    refine W_seq ?_
    refine W_seq_reg ?_
    refine WL_assign rfl rfl ?_
    refine WL_nil ?_
    obtain ⟨r1, hr1, hF⟩ := bind_some hF
    refine W_norm (fun l w => .inl () = r1 ∧ l = [] ∧ Below w0.heap.size w0 w ∧ Ctx [] w0 w []) ?_ ?_
    · refine W_block ?_
      refine W.sub (l' := [(0, u1), (1, u2), (5, (.int .i64 0))]) ?_ ⟨rfl, rfl, rfl, trivial⟩
      refine W_loop (fun k l w => ∃ x1 : Int, l = [(0, u1), (1, u2), (5, (.int .i64 x1))] ∧ Below w0.heap.size w0 w ∧ Ctx [] w0 w [] ∧ Q.eqFactSS_l1 a1 a2 k x1 = some r1) FUEL ⟨0, rfl, (Below.refl _ _), hC0, hr1⟩ ?_
      clear hr1
      rintro k1 _ w1 ⟨x1, rfl, hB1, hC1, hL1⟩
      cases k1 with
      | zero => rw [Q.eqFactSS_l1] at hL1; cases hL1
      | succ k1 =>
        rw [Q.eqFactSS_l1] at hL1
        refine W_seq ?_
        refine W_seq_reg ?_
        refine WL_move rfl rfl ?_
        refine WL_move rfl rfl ?_
        refine WL_len Try.underlying66 g1 rfl rfl ?_
        refine WL_lss rfl rfl rfl ?_
        refine WL_nil ?_
        refine W_cond rfl (fun hc2 => ?_) (fun hc2 => ?_)
        · replace hL1 := ite_t hL1 hc2
          refine W_skip ?_
          refine nrm_normal ?_
          refine W_seq ?_
          refine W_block ?_
          refine W_seq ?_
          obtain ⟨x2, hx1, hL1⟩ := bind_some hL1
          obtain ⟨x3, hx2, hL1⟩ := bind_some hL1
          refine W.sub (l' := [(0, u1), (1, u2), (5, (.int .i64 x1)), (11, (.int .i64 x1)), (12, u1), (13, (.int .i64 (List.length a1 : Int))), (14, (.bool (decide (x1 < (List.length a1 : Int)))))]) ?_ ⟨rfl, rfl, rfl, rfl, rfl, rfl, rfl, trivial⟩
          refine W_any 8 [PV.val u1, PV.val (.int .i64 x1), PV.at [] w0 x2, PV.ro [] w0 x2, PV.val u2, PV.val (.int .i64 x1), PV.at [] w0 x3, PV.ro [] w0 x3] [[], [], [0, 1], [2], [], [], [4, 5], [6]] hmix (by kernel_rfl) rfl ?_ ?_
          · refine Steps_cons ?_ ?_
            · intro w2 hB2
              refine DepsK_nil ?_
              refine WL_move rfl rfl ?_
              refine WL_nil ?_
              exact Fin1_val (Below.refl _ _) rfl rfl ⟨rfl, rfl⟩
            refine Steps_cons ?_ ?_
            · intro w2 hB2
              refine DepsK_nil ?_
              refine WL_move rfl rfl ?_
              refine WL_nil ?_
              exact Fin1_val (Below.refl _ _) rfl rfl ⟨rfl, rfl⟩
            refine Steps_cons ?_ ?_
            · intro w2 hB2
              refine DepsK_cons rfl rfl ?_
              rintro _ _ ⟨rfl, rfl⟩
              refine DepsK_cons rfl rfl ?_
              rintro _ _ ⟨rfl, rfl⟩
              refine DepsK_nil ?_
              refine WL_index Try.underlying66 ty51 g1 hx1 rfl rfl rfl (fun b1 o1 h1 => ?_)
              refine WL_nil ?_
              exact Fin1_val (Below.refl _ _) rfl rfl ⟨rfl, _, _, rfl, h1⟩
            refine Steps_cons ?_ ?_
            · intro w2 hB2
              refine DepsK_cons rfl rfl ?_
              rintro _ _ ⟨rfl, b1, o1, rfl, h1⟩
              refine DepsK_nil ?_
              refine WL_load ty51 h1 (hC1.keep.then hB2) rfl rfl (fun v1 h2 => ?_)
              refine WL_nil ?_
              exact Fin1_val (Below.refl _ _) rfl rfl ⟨rfl, h2⟩
            refine Steps_cons ?_ ?_
            · intro w2 hB2
              refine DepsK_nil ?_
              refine WL_move rfl rfl ?_
              refine WL_nil ?_
              exact Fin1_val (Below.refl _ _) rfl rfl ⟨rfl, rfl⟩
            refine Steps_cons ?_ ?_
            · intro w2 hB2
              refine DepsK_nil ?_
              refine WL_move rfl rfl ?_
              refine WL_nil ?_
              exact Fin1_val (Below.refl _ _) rfl rfl ⟨rfl, rfl⟩
            refine Steps_cons ?_ ?_
            · intro w2 hB2
              refine DepsK_cons rfl rfl ?_
              rintro _ _ ⟨rfl, rfl⟩
              refine DepsK_cons rfl rfl ?_
              rintro _ _ ⟨rfl, rfl⟩
              refine DepsK_nil ?_
              refine WL_index Try.underlying66 ty51 g2 hx2 rfl rfl rfl (fun b2 o2 h3 => ?_)
              refine WL_nil ?_
              exact Fin1_val (Below.refl _ _) rfl rfl ⟨rfl, _, _, rfl, h3⟩
            refine Steps_cons ?_ ?_
            · intro w2 hB2
              refine DepsK_cons rfl rfl ?_
              rintro _ _ ⟨rfl, b2, o2, rfl, h3⟩
              refine DepsK_nil ?_
              refine WL_load ty51 h3 (hC1.keep.then hB2) rfl rfl (fun v2 h4 => ?_)
              refine WL_nil ?_
              exact Fin1_val (Below.refl _ _) rfl rfl ⟨rfl, h4⟩
            exact Steps_nil
          · intro w3 hB3
            refine AllK_cons rfl ?_
            rintro _ _ ⟨rfl, rfl⟩
            refine AllK_cons rfl ?_
            rintro _ _ ⟨rfl, rfl⟩
            refine AllK_cons rfl ?_
            rintro _ _ ⟨rfl, b1, o1, rfl, h1⟩
            refine AllK_cons rfl ?_
            rintro v1 _ ⟨rfl, h2⟩
            refine AllK_cons rfl ?_
            rintro _ _ ⟨rfl, rfl⟩
            refine AllK_cons rfl ?_
            rintro _ _ ⟨rfl, rfl⟩
            refine AllK_cons rfl ?_
            rintro _ _ ⟨rfl, b2, o2, rfl, h3⟩
            refine AllK_cons rfl ?_
            rintro v2 _ ⟨rfl, h4⟩
            refine AllK_nil ?_
            intro hn1 hb1
            have hC2 := hC1.grow hB3
            obtain ⟨x4, hr2, hL1⟩ := bind_some hL1
            refine WL_call Try.call39 rfl rfl (c_Q_eqFactS x2 v1 (h2.now hC2.keep) x3 v2 (h4.now hC2.keep) x4 hr2) ?_
            intro _ w4 hv1
            obtain ⟨rfl, hB4⟩ := res_bool hv1
            have hC3 := hC2.grow hB4
            refine WL_not rfl rfl ?_
            refine WL_nil ?_
            refine nrm_normal ?_
            refine W_cond rfl (fun hc3 => ?_) (fun hc3 => ?_)
            · replace hL1 := ite_t hL1 hc3
              refine W_seq_reg ?_
              refine WL_assign rfl rfl ?_
              refine WL_nil ?_
              refine W_ret ?_
              refine blk_ret ?_
              refine nrm_ret ?_
              refine nrm_ret ?_
              refine blk_ret ?_
              refine nrm_ret ?_
              refine nrm_ret ?_
              have hq2 := Option.some.inj hL1
              subst hq2
              dsimp only at hF
              have hq3 := Option.some.inj hF
              subst hq3
              refine fn_ret1 rfl rfl ?_
              exact ⟨_, rfl, bool_res hC3 _⟩
            · replace hL1 := ite_f hL1 hc3
              refine W_skip ?_
              refine blk_normal ?_
              refine nrm_normal ?_
              refine W_reg ?_
              refine WL_move rfl rfl ?_
              refine WL_add rfl rfl rfl ?_
              refine WL_assign rfl rfl ?_
              refine WL_nil ?_
              refine nrm_sub (l' := [(0, u1), (1, u2), (5, (.int .i64 (w64 (x1 + 1))))]) ⟨rfl, rfl, rfl, trivial⟩ ?_
              exact ⟨k1, Nat.lt_succ_self _, w64 (x1 + 1), rfl, (((Keep.of hB1).then hB3).then hB4).below, hC3, hL1⟩
        · replace hL1 := ite_f hL1 hc2
          refine W_exit ?_
          refine nrm_exit ?_
          refine nrm_exit ?_
          refine blk_exit ?_
          have hq4 := Option.some.inj hL1
          subst hq4
          refine nrm_sub (l' := []) trivial ?_
          exact ⟨rfl, rfl, (Keep.of hB1).below, hC1⟩
    · rintro l2 _ w5 hs2 ⟨rfl, rfl, hB5, hC4⟩
      try dsimp only at hF
      refine nrm_sub' hs2 ?_
      clear hs2
      refine W_seq_reg ?_
      refine WL_assign rfl rfl ?_
      refine WL_nil ?_
      refine W_ret ?_
      have hq5 := Option.some.inj hF
      subst hq5
      refine fn_ret1 rfl rfl ?_
      exact ⟨_, rfl, bool_res hC4 _⟩

theorem c_Q_big {w0 : World} (a1 : (List UInt8)) (u1 : Value) (g1 : RO [] w0 u1 a1) (rr : Bool) (hF : Q.big a1 = some rr) :
    Calls Try.prog 53 [u1].toArray w0 fun e w' => ∃ v, e = .returned v ∧ Res w0 rr v w' := by
  refine calls_of_W Try.func53 rfl rfl ?_
  have hC0 := Ctx.start w0
  unfold Q.big at hF
  refine W_seq_reg ?_
  refine WL_assign rfl rfl ?_
  refine WL_nil ?_
  refine W_seq_reg ?_
  refine WL_move rfl rfl ?_
  refine WL_len Try.underlying71 g1 rfl rfl ?_
  refine WL_gtr rfl rfl rfl ?_
  refine WL_assign rfl rfl ?_
  refine WL_nil ?_
  refine W_ret ?_
  have hq1 := Option.some.inj hF
  subst hq1
  refine fn_ret1 rfl rfl ?_
  exact ⟨_, rfl, bool_res hC0 _⟩

theorem c_Q_sameInts {w0 : World} (a1 : (List Int)) (u1 : Value) (g1 : RO [] w0 u1 a1) (a2 : (List Int)) (u2 : Value) (g2 : RO [] w0 u2 a2) (rr : Bool) (hF : Q.sameInts a1 a2 = some rr) :
    Calls Try.prog 55 [u1, u2].toArray w0 fun e w' => ∃ v, e = .returned v ∧ Res w0 rr v w' := by
  refine calls_of_W Try.func55 rfl rfl ?_
  have hC0 := Ctx.start w0
  unfold Q.sameInts at hF
  refine W_seq_reg ?_
  refine WL_assign rfl rfl ?_
  refine WL_nil ?_
  refine W_seq ?_
  refine W_seq_reg ?_
  refine WL_move rfl rfl ?_
  refine WL_len Try.underlying27 g1 rfl rfl ?_
  refine WL_move rfl rfl ?_
  refine WL_len Try.underlying27 g2 rfl rfl ?_
  refine WL_neq rfl rfl rfl ?_
  refine WL_nil ?_
  refine W_cond rfl (fun hc1 => ?_) (fun hc1 => ?_)
  · replace hF := ite_t hF hc1
    refine W_seq_reg ?_
    refine WL_assign rfl rfl ?_
    refine WL_nil ?_
    refine W_ret ?_
    refine nrm_ret ?_
    have hq1 := Option.some.inj hF
    subst hq1
    refine fn_ret1 rfl rfl ?_
    exact ⟨_, rfl, bool_res hC0 _⟩
  · replace hF := ite_f hF hc1
    refine W_skip ?_
    refine nrm_normal ?_
    refine W_seq ?_
    refine W_seq_reg ?_
    refine WL_assign rfl rfl ?_
    refine WL_nil ?_
    obtain ⟨r1, hr1, hF⟩ := bind_some hF
    refine W_norm (fun l w => .inl () = r1 ∧ l = [] ∧ Below w0.heap.size w0 w ∧ Ctx [] w0 w []) ?_ ?_
    · refine W_block ?_
      refine W.sub (l' := [(0, u1), (1, u2), (5, (.int .i64 0))]) ?_ ⟨rfl, rfl, rfl, trivial⟩
      refine W_loop (fun k l w => ∃ x1 : Int, l = [(0, u1), (1, u2), (5, (.int .i64 x1))] ∧ Below w0.heap.size w0 w ∧ Ctx [] w0 w [] ∧ Q.sameInts_l1 a1 a2 k x1 = some r1) FUEL ⟨0, rfl, (Below.refl _ _), hC0, hr1⟩ ?_
      clear hr1
      rintro k1 _ w1 ⟨x1, rfl, hB1, hC1, hL1⟩
      cases k1 with
      | zero => rw [Q.sameInts_l1] at hL1; cases hL1
      | succ k1 =>
        rw [Q.sameInts_l1] at hL1
        refine W_seq ?_
        refine W_seq_reg ?_
        refine WL_move rfl rfl ?_
        refine WL_move rfl rfl ?_
        refine WL_len Try.underlying27 g1 rfl rfl ?_
        refine WL_lss rfl rfl rfl ?_
        refine WL_nil ?_
        refine W_cond rfl (fun hc2 => ?_) (fun hc2 => ?_)
        · replace hL1 := ite_t hL1 hc2
          refine W_skip ?_
          refine nrm_normal ?_
          refine W_seq ?_
          refine W_block ?_
          refine W_seq ?_
          obtain ⟨x2, hx1, hL1⟩ := bind_some hL1
          obtain ⟨x3, hx2, hL1⟩ := bind_some hL1
          refine W.sub (l' := [(0, u1), (1, u2), (5, (.int .i64 x1)), (11, (.int .i64 x1)), (12, u1), (13, (.int .i64 (List.length a1 : Int))), (14, (.bool (decide (x1 < (List.length a1 : Int)))))]) ?_ ⟨rfl, rfl, rfl, rfl, rfl, rfl, rfl, trivial⟩
          refine W_any 8 [PV.val u1, PV.val (.int .i64 x1), PV.at [] w0 x2, PV.val (.int .i64 x2), PV.val u2, PV.val (.int .i64 x1), PV.at [] w0 x3, PV.val (.int .i64 x3)] [[], [], [0, 1], [2], [], [], [4, 5], [6]] hmix (by kernel_rfl) rfl ?_ ?_
          · refine Steps_cons ?_ ?_
            · intro w2 hB2
              refine DepsK_nil ?_
              refine WL_move rfl rfl ?_
              refine WL_nil ?_
              exact Fin1_val (Below.refl _ _) rfl rfl ⟨rfl, rfl⟩
            refine Steps_cons ?_ ?_
            · intro w2 hB2
              refine DepsK_nil ?_
              refine WL_move rfl rfl ?_
              refine WL_nil ?_
              exact Fin1_val (Below.refl _ _) rfl rfl ⟨rfl, rfl⟩
            refine Steps_cons ?_ ?_
            · intro w2 hB2
              refine DepsK_cons rfl rfl ?_
              rintro _ _ ⟨rfl, rfl⟩
              refine DepsK_cons rfl rfl ?_
              rintro _ _ ⟨rfl, rfl⟩
              refine DepsK_nil ?_
              refine WL_index Try.underlying27 ty3 g1 hx1 rfl rfl rfl (fun b1 o1 h1 => ?_)
              refine WL_nil ?_
              exact Fin1_val (Below.refl _ _) rfl rfl ⟨rfl, _, _, rfl, h1⟩
            refine Steps_cons ?_ ?_
            · intro w2 hB2
              refine DepsK_cons rfl rfl ?_
              rintro _ _ ⟨rfl, b1, o1, rfl, h1⟩
              refine DepsK_nil ?_
              refine WL_load ty3 h1 (hC1.keep.then hB2) rfl rfl (fun v1 h2 => ?_)
              obtain rfl := ro_int h2
              refine WL_nil ?_
              exact Fin1_val (Below.refl _ _) rfl rfl ⟨rfl, rfl⟩
            refine Steps_cons ?_ ?_
            · intro w2 hB2
              refine DepsK_nil ?_
              refine WL_move rfl rfl ?_
              refine WL_nil ?_
              exact Fin1_val (Below.refl _ _) rfl rfl ⟨rfl, rfl⟩
            refine Steps_cons ?_ ?_
            · intro w2 hB2
              refine DepsK_nil ?_
              refine WL_move rfl rfl ?_
              refine WL_nil ?_
              exact Fin1_val (Below.refl _ _) rfl rfl ⟨rfl, rfl⟩
            refine Steps_cons ?_ ?_
            · intro w2 hB2
              refine DepsK_cons rfl rfl ?_
              rintro _ _ ⟨rfl, rfl⟩
              refine DepsK_cons rfl rfl ?_
              rintro _ _ ⟨rfl, rfl⟩
              refine DepsK_nil ?_
              refine WL_index Try.underlying27 ty3 g2 hx2 rfl rfl rfl (fun b2 o2 h3 => ?_)
              refine WL_nil ?_
              exact Fin1_val (Below.refl _ _) rfl rfl ⟨rfl, _, _, rfl, h3⟩
            refine Steps_cons ?_ ?_
            · intro w2 hB2
              refine DepsK_cons rfl rfl ?_
              rintro _ _ ⟨rfl, b2, o2, rfl, h3⟩
              refine DepsK_nil ?_
              refine WL_load ty3 h3 (hC1.keep.then hB2) rfl rfl (fun v2 h4 => ?_)
              obtain rfl := ro_int h4
              refine WL_nil ?_
              exact Fin1_val (Below.refl _ _) rfl rfl ⟨rfl, rfl⟩
            exact Steps_nil
          · intro w3 hB3
            refine AllK_cons rfl ?_
            rintro _ _ ⟨rfl, rfl⟩
            refine AllK_cons rfl ?_
            rintro _ _ ⟨rfl, rfl⟩
            refine AllK_cons rfl ?_
            rintro _ _ ⟨rfl, b1, o1, rfl, h1⟩
            refine AllK_cons rfl ?_
            rintro _ _ ⟨rfl, rfl⟩
            refine AllK_cons rfl ?_
            rintro _ _ ⟨rfl, rfl⟩
            refine AllK_cons rfl ?_
            rintro _ _ ⟨rfl, rfl⟩
            refine AllK_cons rfl ?_
            rintro _ _ ⟨rfl, b2, o2, rfl, h3⟩
            refine AllK_cons rfl ?_
            rintro _ _ ⟨rfl, rfl⟩
            refine AllK_nil ?_
            intro hn1 hb1
            have hC2 := hC1.grow hB3
            refine WL_neq rfl rfl rfl ?_
            refine WL_nil ?_
            refine nrm_normal ?_
            refine W_cond rfl (fun hc3 => ?_) (fun hc3 => ?_)
            · replace hL1 := ite_t hL1 hc3
              refine W_seq_reg ?_
              refine WL_assign rfl rfl ?_
              refine WL_nil ?_
              refine W_ret ?_
              refine blk_ret ?_
              refine nrm_ret ?_
              refine nrm_ret ?_
              refine blk_ret ?_
              refine nrm_ret ?_
              refine nrm_ret ?_
              have hq2 := Option.some.inj hL1
              subst hq2
              dsimp only at hF
              have hq3 := Option.some.inj hF
              subst hq3
              refine fn_ret1 rfl rfl ?_
              exact ⟨_, rfl, bool_res hC2 _⟩
            · replace hL1 := ite_f hL1 hc3
              refine W_skip ?_
              refine blk_normal ?_
              refine nrm_normal ?_
              refine W_reg ?_
              refine WL_move rfl rfl ?_
              refine WL_add rfl rfl rfl ?_
              refine WL_assign rfl rfl ?_
              refine WL_nil ?_
              refine nrm_sub (l' := [(0, u1), (1, u2), (5, (.int .i64 (w64 (x1 + 1))))]) ⟨rfl, rfl, rfl, trivial⟩ ?_
              exact ⟨k1, Nat.lt_succ_self _, w64 (x1 + 1), rfl, ((Keep.of hB1).then hB3).below, hC2, hL1⟩
        · replace hL1 := ite_f hL1 hc2
          refine W_exit ?_
          refine nrm_exit ?_
          refine nrm_exit ?_
          refine blk_exit ?_
          have hq4 := Option.some.inj hL1
          subst hq4
          refine nrm_sub (l' := []) trivial ?_
          exact ⟨rfl, rfl, (Keep.of hB1).below, hC1⟩
    · rintro l2 _ w4 hs2 ⟨rfl, rfl, hB4, hC3⟩
      try dsimp only at hF
      refine nrm_sub' hs2 ?_
      clear hs2
      refine W_seq_reg ?_
      refine WL_assign rfl rfl ?_
      refine WL_nil ?_
      refine W_ret ?_
      have hq5 := Option.some.inj hF
      subst hq5
      refine fn_ret1 rfl rfl ?_
      exact ⟨_, rfl, bool_res hC3 _⟩

theorem c_Q_heldFactSS {w0 : World} (a1 : (List (List (Int × (List Int))))) (u1 : Value) (g1 : RO [] w0 u1 a1) (a2 : Int) (rr : Int) (hF : Q.heldFactSS a1 a2 = some rr) :
    Calls Try.prog 67 [u1, (.int .i64 a2)].toArray w0 fun e w' => ∃ v, e = .returned v ∧ Res w0 rr v w' := by
  refine calls_of_W Try.func67 rfl rfl ?_
  have hC0 := Ctx.start w0
  unfold Q.heldFactSS at hF
  refine W_seq_reg ?_
  refine WL_assign rfl rfl ?_
  refine WL_nil ?_
  refine W_seq ?_
  refine W_seq_reg ?_
  refine WL_assign rfl rfl ?_
  refine WL_nil ?_
  obtain ⟨r1, hr1, hF⟩ := bind_some hF
  refine W_norm (fun l w => ∃ x3 : Int, .inl x3 = r1 ∧ l = [(1, (.int .i64 x3))] ∧ Below w0.heap.size w0 w ∧ Ctx [] w0 w []) ?_ ?_
  · refine W_block ?_
    refine W.sub (l' := [(0, u1), (1, (.int .i64 a2)), (5, (.int .i64 0))]) ?_ ⟨rfl, rfl, rfl, trivial⟩
    refine W_loop (fun k l w => ∃ x1 : Int, ∃ x2 : Int, l = [(0, u1), (1, (.int .i64 x1)), (5, (.int .i64 x2))] ∧ Below w0.heap.size w0 w ∧ Ctx [] w0 w [] ∧ Q.heldFactSS_l1 a1 k x1 x2 = some r1) FUEL ⟨a2, 0, rfl, (Below.refl _ _), hC0, hr1⟩ ?_
    clear hr1
    rintro k1 _ w1 ⟨x1, x2, rfl, hB1, hC1, hL1⟩
    cases k1 with
    | zero => rw [Q.heldFactSS_l1] at hL1; cases hL1
    | succ k1 =>
      rw [Q.heldFactSS_l1] at hL1
      refine W_seq ?_
      refine W_seq_reg ?_
      refine WL_move rfl rfl ?_
      refine WL_move rfl rfl ?_
      refine WL_len Try.underlying66 g1 rfl rfl ?_
      refine WL_lss rfl rfl rfl ?_
      refine WL_nil ?_
      refine W_cond rfl (fun hc1 => ?_) (fun hc1 => ?_)
      · replace hL1 := ite_t hL1 hc1
        refine W_skip ?_
        refine nrm_normal ?_
        refine W_seq ?_
        refine W_block ?_
        refine W_seq_reg ?_
        refine WL_move rfl rfl ?_
        refine WL_move rfl rfl ?_
        obtain ⟨x4, hx1, hL1⟩ := bind_some hL1
        refine WL_index Try.underlying66 ty51 g1 hx1 rfl rfl rfl (fun b1 o1 h1 => ?_)
        refine WL_load ty51 h1 hC1.keep rfl rfl (fun v1 h2 => ?_)
        refine WL_move rfl rfl ?_
        obtain ⟨x5, hr2, hL1⟩ := bind_some hL1
        refine WL_call Try.call41 rfl rfl (c_Q_heldFactS x4 v1 (h2.now hC1.keep) x1 x5 hr2) ?_
        intro _ w2 hv1
        obtain ⟨rfl, hB2⟩ := res_int hv1
        have hC2 := hC1.grow hB2
        refine WL_assign rfl rfl ?_
        refine WL_nil ?_
        refine W_seq_reg ?_
        refine WL_move rfl rfl ?_
        refine WL_lss rfl rfl rfl ?_
        refine WL_nil ?_
        refine W_cond rfl (fun hc2 => ?_) (fun hc2 => ?_)
        · replace hL1 := ite_t hL1 hc2
          refine W_seq_reg ?_
          refine WL_assign rfl rfl ?_
          refine WL_nil ?_
          refine W_ret ?_
          refine blk_ret ?_
          refine nrm_ret ?_
          refine nrm_ret ?_
          refine blk_ret ?_
          refine nrm_ret ?_
          refine nrm_ret ?_
          have hq1 := Option.some.inj hL1
          subst hq1
          dsimp only at hF
          have hq2 := Option.some.inj hF
          subst hq2
          refine fn_ret1 rfl rfl ?_
          exact ⟨_, rfl, int_res hC2 _⟩
        · replace hL1 := ite_f hL1 hc2
          refine W_skip ?_
          refine blk_normal ?_
          refine nrm_normal ?_
          refine W_reg ?_
          refine WL_move rfl rfl ?_
          refine WL_add rfl rfl rfl ?_
          refine WL_assign rfl rfl ?_
          refine WL_nil ?_
          refine nrm_sub (l' := [(0, u1), (1, (.int .i64 x5)), (5, (.int .i64 (w64 (x2 + 1))))]) ⟨rfl, rfl, rfl, trivial⟩ ?_
          exact ⟨k1, Nat.lt_succ_self _, x5, w64 (x2 + 1), rfl, ((Keep.of hB1).then hB2).below, hC2, hL1⟩
      · replace hL1 := ite_f hL1 hc1
        refine W_exit ?_
        refine nrm_exit ?_
        refine nrm_exit ?_
        refine blk_exit ?_
        have hq3 := Option.some.inj hL1
        subst hq3
        refine nrm_sub (l' := [(1, (.int .i64 x1))]) ⟨rfl, trivial⟩ ?_
        exact ⟨x1, rfl, rfl, (Keep.of hB1).below, hC1⟩
  · rintro l2 _ w3 hs2 ⟨x3, rfl, rfl, hB3, hC3⟩
    try dsimp only at hF
    refine nrm_sub' hs2 ?_
    clear hs2
    refine W_seq_reg ?_
    refine WL_move rfl rfl ?_
    refine WL_assign rfl rfl ?_
    refine WL_nil ?_
    refine W_ret ?_
    have hq4 := Option.some.inj hF
    subst hq4
    refine fn_ret1 rfl rfl ?_
    exact ⟨_, rfl, int_res hC3 _⟩

theorem c_Q_szAtom {w0 : World} (a1 : (Int × (List Int))) (u1 : Value) (g1 : RO [] w0 u1 a1.2) (a2 : Int) (rr : Int) (hF : Q.szAtom a1 a2 = some rr) :
    Calls Try.prog 120 [(.agg #[(.int .i64 a1.1), u1]), (.int .i64 a2)].toArray w0 fun e w' => ∃ v, e = .returned v ∧ Res w0 rr v w' := by
  refine calls_of_W Try.func120 rfl rfl ?_
  have hC0 := Ctx.start w0
  unfold Q.szAtom at hF
  refine W_seq_reg ?_
  refine WL_box (cs := [(.int .i64 a1.1), u1]) hC0 rfl rfl rfl (fun b1 w1 hC1 hB1 => ?_)
  refine WL_assign rfl rfl ?_
  refine WL_nil ?_
  refine W_seq_reg ?_
  refine WL_field Try.underlying138 rfl rfl (fun w => ⟨_, Try.sizeOf27 w⟩) rfl rfl ?_
  refine WL_load_box hC1 0 rfl rfl Try.isAgg27 rfl rfl ?_
  refine WL_move rfl rfl ?_
  obtain ⟨x1, hr1, hF⟩ := bind_some hF
  refine WL_call Try.call78 rfl rfl (c_Q_szIntS a1.2 u1 (g1.now hC1.keep) a2 x1 hr1) ?_
  intro _ w2 hv1
  obtain ⟨rfl, hB2⟩ := res_int hv1
  have hC2 := hC1.grow hB2
  refine WL_assign rfl rfl ?_
  refine WL_nil ?_
  refine W_seq ?_
  refine W_seq_reg ?_
  refine WL_move rfl rfl ?_
  refine WL_lss rfl rfl rfl ?_
  refine WL_nil ?_
  refine W_cond rfl (fun hc1 => ?_) (fun hc1 => ?_)
  · replace hF := ite_t hF hc1
    refine W_seq_reg ?_
    refine WL_assign rfl rfl ?_
    refine WL_nil ?_
    refine W_ret ?_
    refine nrm_ret ?_
    have hq1 := Option.some.inj hF
    subst hq1
    refine fn_ret1 rfl rfl ?_
    exact ⟨_, rfl, int_res hC2 _⟩
  · replace hF := ite_f hF hc1
    refine W_skip ?_
    refine nrm_normal ?_
    refine W_seq_reg ?_
    refine WL_move rfl rfl ?_
    refine WL_assign rfl rfl ?_
    refine WL_nil ?_
    refine W_ret ?_
    have hq2 := Option.some.inj hF
    subst hq2
    refine fn_ret1 rfl rfl ?_
    exact ⟨_, rfl, int_res hC2 _⟩

theorem c_Q_szAtomS {w0 : World} (a1 : (List (Int × (List Int)))) (u1 : Value) (g1 : RO [] w0 u1 a1) (a2 : Int) (rr : Int) (hF : Q.szAtomS a1 a2 = some rr) :
    Calls Try.prog 105 [u1, (.int .i64 a2)].toArray w0 fun e w' => ∃ v, e = .returned v ∧ Res w0 rr v w' := by
  refine calls_of_W Try.func105 rfl rfl ?_
  have hC0 := Ctx.start w0
  unfold Q.szAtomS at hF
  refine W_seq_reg ?_
  refine WL_assign rfl rfl ?_
  refine WL_nil ?_
  refine W_seq_reg ?_
  refine WL_move rfl rfl ?_
  refine WL_move rfl rfl ?_
  refine WL_len Try.underlying86 g1 rfl rfl ?_
  refine WL_sub rfl rfl rfl ?_
  refine WL_assign rfl rfl ?_
  refine WL_nil ?_
  refine W_seq ?_
  refine W_seq_reg ?_
  refine WL_move rfl rfl ?_
  refine WL_lss rfl rfl rfl ?_
  refine WL_nil ?_
  refine W_cond rfl (fun hc1 => ?_) (fun hc1 => ?_)
  · replace hF := ite_t hF hc1
    refine W_seq_reg ?_
    refine WL_assign rfl rfl ?_
    refine WL_nil ?_
    refine W_ret ?_
    refine nrm_ret ?_
    have hq1 := Option.some.inj hF
    subst hq1
    refine fn_ret1 rfl rfl ?_
    exact ⟨_, rfl, int_res hC0 _⟩
  · replace hF := ite_f hF hc1
    refine W_skip ?_
    refine nrm_normal ?_
    refine W_seq ?_
    refine W_seq_reg ?_
    refine WL_assign rfl rfl ?_
    refine WL_nil ?_
    obtain ⟨r1, hr1, hF⟩ := bind_some hF
    refine W_norm (fun l w => ∃ x3 : Int, .inl x3 = r1 ∧ l = [(1, (.int .i64 x3))] ∧ Below w0.heap.size w0 w ∧ Ctx [] w0 w []) ?_ ?_
    · refine W_block ?_
      refine W.sub (l' := [(0, u1), (1, (.int .i64 (w64 (a2 - (List.length a1 : Int))))), (5, (.int .i64 0))]) ?_ ⟨rfl, rfl, rfl, trivial⟩
      refine W_loop (fun k l w => ∃ x1 : Int, ∃ x2 : Int, l = [(0, u1), (1, (.int .i64 x1)), (5, (.int .i64 x2))] ∧ Below w0.heap.size w0 w ∧ Ctx [] w0 w [] ∧ Q.szAtomS_l1 a1 k x1 x2 = some r1) FUEL ⟨w64 (a2 - (List.length a1 : Int)), 0, rfl, (Below.refl _ _), hC0, hr1⟩ ?_
      clear hr1
      rintro k1 _ w1 ⟨x1, x2, rfl, hB1, hC1, hL1⟩
      cases k1 with
      | zero => rw [Q.szAtomS_l1] at hL1; cases hL1
      | succ k1 =>
        rw [Q.szAtomS_l1] at hL1
        refine W_seq ?_
        refine W_seq_reg ?_
        refine WL_move rfl rfl ?_
        refine WL_move rfl rfl ?_
        refine WL_len Try.underlying86 g1 rfl rfl ?_
        refine WL_lss rfl rfl rfl ?_
        refine WL_nil ?_
        refine W_cond rfl (fun hc2 => ?_) (fun hc2 => ?_)
        · replace hL1 := ite_t hL1 hc2
          refine W_skip ?_
          refine nrm_normal ?_
          refine W_seq ?_
          refine W_block ?_
          refine W_seq_reg ?_
          refine WL_move rfl rfl ?_
          refine WL_move rfl rfl ?_
          obtain ⟨x4, hx1, hL1⟩ := bind_some hL1
          refine WL_index Try.underlying86 ty138 g1 hx1 rfl rfl rfl (fun b1 o1 h1 => ?_)
          refine WL_load ty138 h1 hC1.keep rfl rfl (fun v1 h2 => ?_)
          obtain ⟨v2, rfl, h3⟩ := ro_st138 h2
          refine WL_move rfl rfl ?_
          obtain ⟨x5, hr2, hL1⟩ := bind_some hL1
          refine WL_call Try.call120 rfl rfl (c_Q_szAtom x4 v2 (h3.now hC1.keep) x1 x5 hr2) ?_
          intro _ w2 hv1
          obtain ⟨rfl, hB2⟩ := res_int hv1
          have hC2 := hC1.grow hB2
          refine WL_assign rfl rfl ?_
          refine WL_nil ?_
          refine W_seq_reg ?_
          refine WL_move rfl rfl ?_
          refine WL_lss rfl rfl rfl ?_
          refine WL_nil ?_
          refine W_cond rfl (fun hc3 => ?_) (fun hc3 => ?_)
          · replace hL1 := ite_t hL1 hc3
            refine W_seq_reg ?_
            refine WL_assign rfl rfl ?_
            refine WL_nil ?_
            refine W_ret ?_
            refine blk_ret ?_
            refine nrm_ret ?_
            refine nrm_ret ?_
            refine blk_ret ?_
            refine nrm_ret ?_
            refine nrm_ret ?_
            have hq2 := Option.some.inj hL1
            subst hq2
            dsimp only at hF
            have hq3 := Option.some.inj hF
            subst hq3
            refine fn_ret1 rfl rfl ?_
            exact ⟨_, rfl, int_res hC2 _⟩
          · replace hL1 := ite_f hL1 hc3
            refine W_skip ?_
            refine blk_normal ?_
            refine nrm_normal ?_
            refine W_reg ?_
            refine WL_move rfl rfl ?_
            refine WL_add rfl rfl rfl ?_
            refine WL_assign rfl rfl ?_
            refine WL_nil ?_
            refine nrm_sub (l' := [(0, u1), (1, (.int .i64 x5)), (5, (.int .i64 (w64 (x2 + 1))))]) ⟨rfl, rfl, rfl, trivial⟩ ?_
            exact ⟨k1, Nat.lt_succ_self _, x5, w64 (x2 + 1), rfl, ((Keep.of hB1).then hB2).below, hC2, hL1⟩
        · replace hL1 := ite_f hL1 hc2
          refine W_exit ?_
          refine nrm_exit ?_
          refine nrm_exit ?_
          refine blk_exit ?_
          have hq4 := Option.some.inj hL1
          subst hq4
          refine nrm_sub (l' := [(1, (.int .i64 x1))]) ⟨rfl, trivial⟩ ?_
          exact ⟨x1, rfl, rfl, (Keep.of hB1).below, hC1⟩
    · rintro l2 _ w3 hs2 ⟨x3, rfl, rfl, hB3, hC3⟩
      try dsimp only at hF
      refine nrm_sub' hs2 ?_
      clear hs2
      refine W_seq_reg ?_
      refine WL_move rfl rfl ?_
      refine WL_assign rfl rfl ?_
      refine WL_nil ?_
      refine W_ret ?_
      have hq5 := Option.some.inj hF
      subst hq5
      refine fn_ret1 rfl rfl ?_
      exact ⟨_, rfl, int_res hC3 _⟩

theorem c_Q_szQuery {w0 : World} (a1 : ((List Int) × (List (Int × (List Int))))) (u1 : Value) (g1 : RO [] w0 u1 a1.1) (u2 : Value) (g2 : RO [] w0 u2 a1.2) (a2 : Int) (rr : Int) (hF : Q.szQuery a1 a2 = some rr) :
    Calls Try.prog 68 [(.agg #[u1, u2]), (.int .i64 a2)].toArray w0 fun e w' => ∃ v, e = .returned v ∧ Res w0 rr v w' := by
  refine calls_of_W Try.func68 rfl rfl ?_
  have hC0 := Ctx.start w0
  unfold Q.szQuery at hF
  refine W_seq_reg ?_
  refine WL_box (cs := [u1, u2]) hC0 rfl rfl rfl (fun b1 w1 hC1 hB1 => ?_)
  refine WL_assign rfl rfl ?_
  refine WL_nil ?_
  refine W_seq_reg ?_
  refine WL_field Try.underlying88 rfl rfl (fun w => ⟨_, Try.sizeOf27 w⟩) rfl rfl ?_
  refine WL_load_box hC1 0 rfl rfl Try.isAgg27 rfl rfl ?_
  refine WL_move rfl rfl ?_
  obtain ⟨x1, hr1, hF⟩ := bind_some hF
  refine WL_call Try.call78 rfl rfl (c_Q_szIntS a1.1 u1 (g1.now hC1.keep) a2 x1 hr1) ?_
  intro _ w2 hv1
  obtain ⟨rfl, hB2⟩ := res_int hv1
  have hC2 := hC1.grow hB2
  refine WL_assign rfl rfl ?_
  refine WL_nil ?_
  refine W_seq ?_
  refine W_seq_reg ?_
  refine WL_move rfl rfl ?_
  refine WL_lss rfl rfl rfl ?_
  refine WL_nil ?_
  refine W_cond rfl (fun hc1 => ?_) (fun hc1 => ?_)
  · replace hF := ite_t hF hc1
    refine W_seq_reg ?_
    refine WL_assign rfl rfl ?_
    refine WL_nil ?_
    refine W_ret ?_
    refine nrm_ret ?_
    have hq1 := Option.some.inj hF
    subst hq1
    refine fn_ret1 rfl rfl ?_
    exact ⟨_, rfl, int_res hC2 _⟩
  · replace hF := ite_f hF hc1
    refine W_skip ?_
    refine nrm_normal ?_
    refine W_seq_reg ?_
    refine WL_field Try.underlying88 rfl rfl (fun w => ⟨_, Try.sizeOf86 w⟩) rfl rfl ?_
    refine WL_load_box hC2 0 rfl rfl Try.isAgg86 rfl rfl ?_
    refine WL_move rfl rfl ?_
    obtain ⟨x2, hr2, hF⟩ := bind_some hF
    refine WL_call Try.call105 rfl rfl (c_Q_szAtomS a1.2 u2 (g2.now hC2.keep) x1 x2 hr2) ?_
    intro _ w3 hv2
    obtain ⟨rfl, hB3⟩ := res_int hv2
    have hC3 := hC2.grow hB3
    refine WL_assign rfl rfl ?_
    refine WL_nil ?_
    refine W_seq ?_
    refine W_seq_reg ?_
    refine WL_move rfl rfl ?_
    refine WL_lss rfl rfl rfl ?_
    refine WL_nil ?_
    refine W_cond rfl (fun hc2 => ?_) (fun hc2 => ?_)
    · replace hF := ite_t hF hc2
      refine W_seq_reg ?_
      refine WL_assign rfl rfl ?_
      refine WL_nil ?_
      refine W_ret ?_
      refine nrm_ret ?_
      have hq2 := Option.some.inj hF
      subst hq2
      refine fn_ret1 rfl rfl ?_
      exact ⟨_, rfl, int_res hC3 _⟩
    · replace hF := ite_f hF hc2
      refine W_skip ?_
      refine nrm_normal ?_
      refine W_seq_reg ?_
      refine WL_move rfl rfl ?_
      refine WL_assign rfl rfl ?_
      refine WL_nil ?_
      refine W_ret ?_
      have hq3 := Option.some.inj hF
      subst hq3
      refine fn_ret1 rfl rfl ?_
      exact ⟨_, rfl, int_res hC3 _⟩

theorem c_S_l30Swap {w0 : World} (a1 : Int) (a2 : Int) (a3 : Int) (rr : Int) (hF : S.l30Swap a1 a2 a3 = some rr) :
    Calls Try.prog 107 [(.int .i64 a1), (.int .i64 a2), (.int .i64 a3)].toArray w0 fun e w' => ∃ v, e = .returned v ∧ Res w0 rr v w' := by
  refine calls_of_W Try.func107 rfl rfl ?_
  have hC0 := Ctx.start w0
  unfold S.l30Swap at hF
  refine W_seq_reg ?_
  refine WL_assign rfl rfl ?_
  refine WL_nil ?_
  refine W_seq ?_
  refine W_seq_reg ?_
  refine WL_move rfl rfl ?_
  refine WL_nil ?_
  refine W_block ?_
  refine W_seq_reg ?_
  refine WL_move rfl rfl ?_
  refine WL_eql rfl rfl rfl ?_
  refine WL_assign rfl rfl ?_
  refine WL_nil ?_
  refine W_cond rfl (fun hc1 => ?_) (fun hc1 => ?_)
  · replace hF := ite_t hF hc1
    refine W_seq_reg ?_
    refine WL_move rfl rfl ?_
    refine WL_assign rfl rfl ?_
    refine WL_nil ?_
    refine W_ret ?_
    refine blk_ret ?_
    refine nrm_ret ?_
    have hq1 := Option.some.inj hF
    subst hq1
    refine fn_ret1 rfl rfl ?_
    exact ⟨_, rfl, int_res hC0 _⟩
  · replace hF := ite_f hF hc1
    refine W_seq_reg ?_
    refine WL_move rfl rfl ?_
    refine WL_eql rfl rfl rfl ?_
    refine WL_assign rfl rfl ?_
    refine WL_nil ?_
    refine W_cond rfl (fun hc2 => ?_) (fun hc2 => ?_)
    · replace hF := ite_t hF hc2
      refine W_seq_reg ?_
      refine WL_move rfl rfl ?_
      refine WL_assign rfl rfl ?_
      refine WL_nil ?_
      refine W_ret ?_
      refine blk_ret ?_
      refine nrm_ret ?_
      have hq2 := Option.some.inj hF
      subst hq2
      refine fn_ret1 rfl rfl ?_
      exact ⟨_, rfl, int_res hC0 _⟩
    · replace hF := ite_f hF hc2
      refine W_skip ?_
      refine blk_normal ?_
      refine nrm_normal ?_
      refine W_seq_reg ?_
      refine WL_move rfl rfl ?_
      refine WL_assign rfl rfl ?_
      refine WL_nil ?_
      refine W_ret ?_
      have hq3 := Option.some.inj hF
      subst hq3
      refine fn_ret1 rfl rfl ?_
      exact ⟨_, rfl, int_res hC0 _⟩

theorem c_M_isValue {w0 : World} (a1 : Int) (rr : Bool) (hF : M.isValue a1 = some rr) :
    Calls Try.prog 110 [(.int .i64 a1)].toArray w0 fun e w' => ∃ v, e = .returned v ∧ Res w0 rr v w' := by
  refine calls_of_W Try.func110 rfl rfl ?_
  have hC0 := Ctx.start w0
  unfold M.isValue at hF
  refine W_seq_reg ?_
  refine WL_assign rfl rfl ?_
  refine WL_nil ?_
  refine W_seq_reg ?_
  refine WL_move rfl rfl ?_
  obtain ⟨x1, hr1, hF⟩ := bind_some hF
  refine WL_call Try.call84 rfl rfl (c_M_within a1 0 9 x1 hr1) ?_
  intro _ w1 hv1
  obtain ⟨rfl, hB1⟩ := res_bool hv1
  have hC1 := hC0.grow hB1
  refine WL_assign rfl rfl ?_
  refine WL_nil ?_
  refine W_ret ?_
  have hq1 := Option.some.inj hF
  subst hq1
  refine fn_ret1 rfl rfl ?_
  exact ⟨_, rfl, bool_res hC1 _⟩

theorem c_Q_eqAtom {w0 : World} (a1 : (Int × (List Int))) (u1 : Value) (g1 : RO [] w0 u1 a1.2) (a2 : (Int × (List Int))) (u2 : Value) (g2 : RO [] w0 u2 a2.2) (rr : Bool) (hF : Q.eqAtom a1 a2 = some rr) :
    Calls Try.prog 125 [(.agg #[(.int .i64 a1.1), u1]), (.agg #[(.int .i64 a2.1), u2])].toArray w0 fun e w' => ∃ v, e = .returned v ∧ Res w0 rr v w' := by
  refine calls_of_W Try.func125 rfl rfl ?_
  have hC0 := Ctx.start w0
  unfold Q.eqAtom at hF
  refine W_seq_reg ?_
  refine WL_box (cs := [(.int .i64 a1.1), u1]) hC0 rfl rfl rfl (fun b1 w1 hC1 hB1 => ?_)
  refine WL_box (cs := [(.int .i64 a2.1), u2]) hC1 rfl rfl rfl (fun b2 w2 hC2 hB2 => ?_)
  refine WL_assign rfl rfl ?_
  refine WL_nil ?_
  refine W_seq ?_
  refine W_seq_reg ?_
  refine WL_field Try.underlying123 rfl rfl (fun w => ⟨_, Try.sizeOf3 w⟩) rfl rfl ?_
  refine WL_load_box hC2 1 rfl rfl Try.isAgg3 rfl rfl ?_
  refine WL_field Try.underlying123 rfl rfl (fun w => ⟨_, Try.sizeOf3 w⟩) rfl rfl ?_
  refine WL_load_box hC2 0 rfl rfl Try.isAgg3 rfl rfl ?_
  refine WL_neq rfl rfl rfl ?_
  refine WL_nil ?_
  refine W_cond rfl (fun hc1 => ?_) (fun hc1 => ?_)
  · replace hF := ite_t hF hc1
    refine W_seq_reg ?_
    refine WL_assign rfl rfl ?_
    refine WL_nil ?_
    refine W_ret ?_
    refine nrm_ret ?_
    have hq1 := Option.some.inj hF
    subst hq1
    refine fn_ret1 rfl rfl ?_
    exact ⟨_, rfl, bool_res hC2 _⟩
  · replace hF := ite_f hF hc1
    refine W_skip ?_
    refine nrm_normal ?_
    refine W_seq ?_
    refine W_seq_reg ?_
    refine WL_field Try.underlying123 rfl rfl (fun w => ⟨_, Try.sizeOf27 w⟩) rfl rfl ?_
    refine WL_load_box hC2 1 rfl rfl Try.isAgg27 rfl rfl ?_
    refine WL_field Try.underlying123 rfl rfl (fun w => ⟨_, Try.sizeOf27 w⟩) rfl rfl ?_
    refine WL_load_box hC2 0 rfl rfl Try.isAgg27 rfl rfl ?_
    obtain ⟨x1, hr1, hF⟩ := bind_some hF
    refine WL_call Try.call30 rfl rfl (c_Q_eqIntS a1.2 u1 (g1.now hC2.keep) a2.2 u2 (g2.now hC2.keep) x1 hr1) ?_
    intro _ w3 hv1
    obtain ⟨rfl, hB3⟩ := res_bool hv1
    have hC3 := hC2.grow hB3
    refine WL_not rfl rfl ?_
    refine WL_nil ?_
    refine W_cond rfl (fun hc2 => ?_) (fun hc2 => ?_)
    · replace hF := ite_t hF hc2
      refine W_seq_reg ?_
      refine WL_assign rfl rfl ?_
      refine WL_nil ?_
      refine W_ret ?_
      refine nrm_ret ?_
      have hq2 := Option.some.inj hF
      subst hq2
      refine fn_ret1 rfl rfl ?_
      exact ⟨_, rfl, bool_res hC3 _⟩
    · replace hF := ite_f hF hc2
      refine W_skip ?_
      refine nrm_normal ?_
      refine W_seq_reg ?_
      refine WL_assign rfl rfl ?_
      refine WL_nil ?_
      refine W_ret ?_
      have hq3 := Option.some.inj hF
      subst hq3
      refine fn_ret1 rfl rfl ?_
      exact ⟨_, rfl, bool_res hC3 _⟩

theorem c_Q_eqAtomS {w0 : World} (a1 : (List (Int × (List Int)))) (u1 : Value) (g1 : RO [] w0 u1 a1) (a2 : (List (Int × (List Int)))) (u2 : Value) (g2 : RO [] w0 u2 a2) (rr : Bool) (hF : Q.eqAtomS a1 a2 = some rr) :
    Calls Try.prog 112 [u1, u2].toArray w0 fun e w' => ∃ v, e = .returned v ∧ Res w0 rr v w' := by
  refine calls_of_W Try.func112 rfl rfl ?_
  have hC0 := Ctx.start w0
  unfold Q.eqAtomS at hF
  refine W_seq_reg ?_
  refine WL_assign rfl rfl ?_
  refine WL_nil ?_
  refine W_seq ?_
  refine W_seq_reg ?_
  refine WL_move rfl rfl ?_
  refine WL_len Try.underlying90 g1 rfl rfl ?_
  refine WL_move rfl rfl ?_
  refine WL_len Try.underlying90 g2 rfl rfl ?_
  refine WL_neq rfl rfl rfl ?_
  refine WL_nil ?_
  refine W_cond rfl (fun hc1 => ?_) (fun hc1 => ?_)
  · replace hF := ite_t hF hc1
    refine W_seq_reg ?_
    refine WL_assign rfl rfl ?_
    refine WL_nil ?_
    refine W_ret ?_
    refine nrm_ret ?_
    have hq1 := Option.some.inj hF
    subst hq1
    refine fn_ret1 rfl rfl ?_
    exact ⟨_, rfl, bool_res hC0 _⟩
  · replace hF := ite_f hF hc1
    refine W_skip ?_
    refine nrm_normal ?_
    refine W_seq ?_
    refine W_seq_reg ?_
    refine WL_assign rfl rfl ?_
    refine WL_nil ?_
    obtain ⟨r1, hr1, hF⟩ := bind_some hF
    refine W_norm (fun l w => .inl () = r1 ∧ l = [] ∧ Below w0.heap.size w0 w ∧ Ctx [] w0 w []) ?_ ?_
    · refine W_block ?_
      refine W.sub (l' := [(0, u1), (1, u2), (5, (.int .i64 0))]) ?_ ⟨rfl, rfl, rfl, trivial⟩
      refine W_loop (fun k l w => ∃ x1 : Int, l = [(0, u1), (1, u2), (5, (.int .i64 x1))] ∧ Below w0.heap.size w0 w ∧ Ctx [] w0 w [] ∧ Q.eqAtomS_l1 a1 a2 k x1 = some r1) FUEL ⟨0, rfl, (Below.refl _ _), hC0, hr1⟩ ?_
      clear hr1
      rintro k1 _ w1 ⟨x1, rfl, hB1, hC1, hL1⟩
      cases k1 with
      | zero => rw [Q.eqAtomS_l1] at hL1; cases hL1
      | succ k1 =>
        rw [Q.eqAtomS_l1] at hL1
        refine W_seq ?_
        refine W_seq_reg ?_
        refine WL_move rfl rfl ?_
        refine WL_move rfl rfl ?_
        refine WL_len Try.underlying90 g1 rfl rfl ?_
        refine WL_lss rfl rfl rfl ?_
        refine WL_nil ?_
        refine W_cond rfl (fun hc2 => ?_) (fun hc2 => ?_)
        · replace hL1 := ite_t hL1 hc2
          refine W_skip ?_
          refine nrm_normal ?_
          refine W_seq ?_
          refine W_block ?_
          refine W_seq ?_
          obtain ⟨x2, hx1, hL1⟩ := bind_some hL1
          obtain ⟨x3, hx2, hL1⟩ := bind_some hL1
          refine W.sub (l' := [(0, u1), (1, u2), (5, (.int .i64 x1)), (11, (.int .i64 x1)), (12, u1), (13, (.int .i64 (List.length a1 : Int))), (14, (.bool (decide (x1 < (List.length a1 : Int)))))]) ?_ ⟨rfl, rfl, rfl, rfl, rfl, rfl, rfl, trivial⟩
          refine W_any 8 [PV.val u1, PV.val (.int .i64 x1), PV.at [] w0 x2, PV.ro [] w0 x2, PV.val u2, PV.val (.int .i64 x1), PV.at [] w0 x3, PV.ro [] w0 x3] [[], [], [0, 1], [2], [], [], [4, 5], [6]] hmix (by kernel_rfl) rfl ?_ ?_
          · refine Steps_cons ?_ ?_
            · intro w2 hB2
              refine DepsK_nil ?_
              refine WL_move rfl rfl ?_
              refine WL_nil ?_
              exact Fin1_val (Below.refl _ _) rfl rfl ⟨rfl, rfl⟩
            refine Steps_cons ?_ ?_
            · intro w2 hB2
              refine DepsK_nil ?_
              refine WL_move rfl rfl ?_
              refine WL_nil ?_
              exact Fin1_val (Below.refl _ _) rfl rfl ⟨rfl, rfl⟩
            refine Steps_cons ?_ ?_
            · intro w2 hB2
              refine DepsK_cons rfl rfl ?_
              rintro _ _ ⟨rfl, rfl⟩
              refine DepsK_cons rfl rfl ?_
              rintro _ _ ⟨rfl, rfl⟩
              refine DepsK_nil ?_
              refine WL_index Try.underlying90 ty123 g1 hx1 rfl rfl rfl (fun b1 o1 h1 => ?_)
              refine WL_nil ?_
              exact Fin1_val (Below.refl _ _) rfl rfl ⟨rfl, _, _, rfl, h1⟩
            refine Steps_cons ?_ ?_
            · intro w2 hB2
              refine DepsK_cons rfl rfl ?_
              rintro _ _ ⟨rfl, b1, o1, rfl, h1⟩
              refine DepsK_nil ?_
              refine WL_load ty123 h1 (hC1.keep.then hB2) rfl rfl (fun v3 h4 => ?_)
              refine WL_nil ?_
              exact Fin1_val (Below.refl _ _) rfl rfl ⟨rfl, h4⟩
            refine Steps_cons ?_ ?_
            · intro w2 hB2
              refine DepsK_nil ?_
              refine WL_move rfl rfl ?_
              refine WL_nil ?_
              exact Fin1_val (Below.refl _ _) rfl rfl ⟨rfl, rfl⟩
            refine Steps_cons ?_ ?_
            · intro w2 hB2
              refine DepsK_nil ?_
              refine WL_move rfl rfl ?_
              refine WL_nil ?_
              exact Fin1_val (Below.refl _ _) rfl rfl ⟨rfl, rfl⟩
            refine Steps_cons ?_ ?_
            · intro w2 hB2
              refine DepsK_cons rfl rfl ?_
              rintro _ _ ⟨rfl, rfl⟩
              refine DepsK_cons rfl rfl ?_
              rintro _ _ ⟨rfl, rfl⟩
              refine DepsK_nil ?_
              refine WL_index Try.underlying90 ty123 g2 hx2 rfl rfl rfl (fun b2 o2 h5 => ?_)
              refine WL_nil ?_
              exact Fin1_val (Below.refl _ _) rfl rfl ⟨rfl, _, _, rfl, h5⟩
            refine Steps_cons ?_ ?_
            · intro w2 hB2
              refine DepsK_cons rfl rfl ?_
              rintro _ _ ⟨rfl, b2, o2, rfl, h5⟩
              refine DepsK_nil ?_
              refine WL_load ty123 h5 (hC1.keep.then hB2) rfl rfl (fun v6 h8 => ?_)
              refine WL_nil ?_
              exact Fin1_val (Below.refl _ _) rfl rfl ⟨rfl, h8⟩
            exact Steps_nil
          · intro w3 hB3
            refine AllK_cons rfl ?_
            rintro _ _ ⟨rfl, rfl⟩
            refine AllK_cons rfl ?_
            rintro _ _ ⟨rfl, rfl⟩
            refine AllK_cons rfl ?_
            rintro _ _ ⟨rfl, b1, o1, rfl, h1⟩
            refine AllK_cons rfl ?_
            rintro v3 _ ⟨rfl, h4⟩
            obtain ⟨v2, rfl, h3⟩ := ro_st123 h4
            refine AllK_cons rfl ?_
            rintro _ _ ⟨rfl, rfl⟩
            refine AllK_cons rfl ?_
            rintro _ _ ⟨rfl, rfl⟩
            refine AllK_cons rfl ?_
            rintro _ _ ⟨rfl, b2, o2, rfl, h5⟩
            refine AllK_cons rfl ?_
            rintro v6 _ ⟨rfl, h8⟩
            obtain ⟨v5, rfl, h7⟩ := ro_st123 h8
            refine AllK_nil ?_
            intro hn1 hb1
            have hC2 := hC1.grow hB3
            obtain ⟨x4, hr2, hL1⟩ := bind_some hL1
            refine WL_call Try.call125 rfl rfl (c_Q_eqAtom x2 v2 (h3.now hC2.keep) x3 v5 (h7.now hC2.keep) x4 hr2) ?_
            intro _ w4 hv1
            obtain ⟨rfl, hB4⟩ := res_bool hv1
            have hC3 := hC2.grow hB4
            refine WL_not rfl rfl ?_
            refine WL_nil ?_
            refine nrm_normal ?_
            refine W_cond rfl (fun hc3 => ?_) (fun hc3 => ?_)
            · replace hL1 := ite_t hL1 hc3
              refine W_seq_reg ?_
              refine WL_assign rfl rfl ?_
              refine WL_nil ?_
              refine W_ret ?_
              refine blk_ret ?_
              refine nrm_ret ?_
              refine nrm_ret ?_
              refine blk_ret ?_
              refine nrm_ret ?_
              refine nrm_ret ?_
              have hq2 := Option.some.inj hL1
              subst hq2
              dsimp only at hF
              have hq3 := Option.some.inj hF
              subst hq3
              refine fn_ret1 rfl rfl ?_
              exact ⟨_, rfl, bool_res hC3 _⟩
            · replace hL1 := ite_f hL1 hc3
              refine W_skip ?_
              refine blk_normal ?_
              refine nrm_normal ?_
              refine W_reg ?_
              refine WL_move rfl rfl ?_
              refine WL_add rfl rfl rfl ?_
              refine WL_assign rfl rfl ?_
              refine WL_nil ?_
              refine nrm_sub (l' := [(0, u1), (1, u2), (5, (.int .i64 (w64 (x1 + 1))))]) ⟨rfl, rfl, rfl, trivial⟩ ?_
              exact ⟨k1, Nat.lt_succ_self _, w64 (x1 + 1), rfl, (((Keep.of hB1).then hB3).then hB4).below, hC3, hL1⟩
        · replace hL1 := ite_f hL1 hc2
          refine W_exit ?_
          refine nrm_exit ?_
          refine nrm_exit ?_
          refine blk_exit ?_
          have hq4 := Option.some.inj hL1
          subst hq4
          refine nrm_sub (l' := []) trivial ?_
          exact ⟨rfl, rfl, (Keep.of hB1).below, hC1⟩
    · rintro l2 _ w5 hs2 ⟨rfl, rfl, hB5, hC4⟩
      try dsimp only at hF
      refine nrm_sub' hs2 ?_
      clear hs2
      refine W_seq_reg ?_
      refine WL_assign rfl rfl ?_
      refine WL_nil ?_
      refine W_ret ?_
      have hq5 := Option.some.inj hF
      subst hq5
      refine fn_ret1 rfl rfl ?_
      exact ⟨_, rfl, bool_res hC4 _⟩

theorem c_Q_eqQuery {w0 : World} (a1 : ((List Int) × (List (Int × (List Int))))) (u1 : Value) (g1 : RO [] w0 u1 a1.1) (u2 : Value) (g2 : RO [] w0 u2 a1.2) (a2 : ((List Int) × (List (Int × (List Int))))) (u3 : Value) (g3 : RO [] w0 u3 a2.1) (u4 : Value) (g4 : RO [] w0 u4 a2.2) (rr : Bool) (hF : Q.eqQuery a1 a2 = some rr) :
    Calls Try.prog 72 [(.agg #[u1, u2]), (.agg #[u3, u4])].toArray w0 fun e w' => ∃ v, e = .returned v ∧ Res w0 rr v w' := by
  refine calls_of_W Try.func72 rfl rfl ?_
  have hC0 := Ctx.start w0
  unfold Q.eqQuery at hF
  refine W_seq_reg ?_
  refine WL_box (cs := [u1, u2]) hC0 rfl rfl rfl (fun b1 w1 hC1 hB1 => ?_)
  refine WL_box (cs := [u3, u4]) hC1 rfl rfl rfl (fun b2 w2 hC2 hB2 => ?_)
  refine WL_assign rfl rfl ?_
  refine WL_nil ?_
  refine W_seq ?_
  refine W_seq_reg ?_
  refine WL_field Try.underlying92 rfl rfl (fun w => ⟨_, Try.sizeOf27 w⟩) rfl rfl ?_
  refine WL_load_box hC2 1 rfl rfl Try.isAgg27 rfl rfl ?_
  refine WL_field Try.underlying92 rfl rfl (fun w => ⟨_, Try.sizeOf27 w⟩) rfl rfl ?_
  refine WL_load_box hC2 0 rfl rfl Try.isAgg27 rfl rfl ?_
  obtain ⟨x1, hr1, hF⟩ := bind_some hF
  refine WL_call Try.call30 rfl rfl (c_Q_eqIntS a1.1 u1 (g1.now hC2.keep) a2.1 u3 (g3.now hC2.keep) x1 hr1) ?_
  intro _ w3 hv1
  obtain ⟨rfl, hB3⟩ := res_bool hv1
  have hC3 := hC2.grow hB3
  refine WL_not rfl rfl ?_
  refine WL_nil ?_
  refine W_cond rfl (fun hc1 => ?_) (fun hc1 => ?_)
  · replace hF := ite_t hF hc1
    refine W_seq_reg ?_
    refine WL_assign rfl rfl ?_
    refine WL_nil ?_
    refine W_ret ?_
    refine nrm_ret ?_
    have hq1 := Option.some.inj hF
    subst hq1
    refine fn_ret1 rfl rfl ?_
    exact ⟨_, rfl, bool_res hC3 _⟩
  · replace hF := ite_f hF hc1
    refine W_skip ?_
    refine nrm_normal ?_
    refine W_seq ?_
    refine W_seq_reg ?_
    refine WL_field Try.underlying92 rfl rfl (fun w => ⟨_, Try.sizeOf90 w⟩) rfl rfl ?_
    refine WL_load_box hC3 1 rfl rfl Try.isAgg90 rfl rfl ?_
    refine WL_field Try.underlying92 rfl rfl (fun w => ⟨_, Try.sizeOf90 w⟩) rfl rfl ?_
    refine WL_load_box hC3 0 rfl rfl Try.isAgg90 rfl rfl ?_
    obtain ⟨x2, hr2, hF⟩ := bind_some hF
    refine WL_call Try.call112 rfl rfl (c_Q_eqAtomS a1.2 u2 (g2.now hC3.keep) a2.2 u4 (g4.now hC3.keep) x2 hr2) ?_
    intro _ w4 hv2
    obtain ⟨rfl, hB4⟩ := res_bool hv2
    have hC4 := hC3.grow hB4
    refine WL_not rfl rfl ?_
    refine WL_nil ?_
    refine W_cond rfl (fun hc2 => ?_) (fun hc2 => ?_)
    · replace hF := ite_t hF hc2
      refine W_seq_reg ?_
      refine WL_assign rfl rfl ?_
      refine WL_nil ?_
      refine W_ret ?_
      refine nrm_ret ?_
      have hq2 := Option.some.inj hF
      subst hq2
      refine fn_ret1 rfl rfl ?_
      exact ⟨_, rfl, bool_res hC4 _⟩
    · replace hF := ite_f hF hc2
      refine W_skip ?_
      refine nrm_normal ?_
      refine W_seq_reg ?_
      refine WL_assign rfl rfl ?_
      refine WL_nil ?_
      refine W_ret ?_
      have hq3 := Option.some.inj hF
      subst hq3
      refine fn_ret1 rfl rfl ?_
      exact ⟨_, rfl, bool_res hC4 _⟩

theorem c_Q_heldAtomS {w0 : World} (a1 : (List (Int × (List Int)))) (u1 : Value) (g1 : RO [] w0 u1 a1) (a2 : Int) (rr : Int) (hF : Q.heldAtomS a1 a2 = some rr) :
    Calls Try.prog 114 [u1, (.int .i64 a2)].toArray w0 fun e w' => ∃ v, e = .returned v ∧ Res w0 rr v w' := by
  refine calls_of_W Try.func114 rfl rfl ?_
  have hC0 := Ctx.start w0
  unfold Q.heldAtomS at hF
  refine W_seq_reg ?_
  refine WL_assign rfl rfl ?_
  refine WL_nil ?_
  refine W_seq ?_
  refine W_seq_reg ?_
  refine WL_assign rfl rfl ?_
  refine WL_nil ?_
  obtain ⟨r1, hr1, hF⟩ := bind_some hF
  refine W_norm (fun l w => ∃ x3 : Int, .inl x3 = r1 ∧ l = [(1, (.int .i64 x3))] ∧ Below w0.heap.size w0 w ∧ Ctx [] w0 w []) ?_ ?_
  · refine W_block ?_
    refine W.sub (l' := [(0, u1), (1, (.int .i64 a2)), (5, (.int .i64 0))]) ?_ ⟨rfl, rfl, rfl, trivial⟩
    refine W_loop (fun k l w => ∃ x1 : Int, ∃ x2 : Int, l = [(0, u1), (1, (.int .i64 x1)), (5, (.int .i64 x2))] ∧ Below w0.heap.size w0 w ∧ Ctx [] w0 w [] ∧ Q.heldAtomS_l1 a1 k x1 x2 = some r1) FUEL ⟨a2, 0, rfl, (Below.refl _ _), hC0, hr1⟩ ?_
    clear hr1
    rintro k1 _ w1 ⟨x1, x2, rfl, hB1, hC1, hL1⟩
    cases k1 with
    | zero => rw [Q.heldAtomS_l1] at hL1; cases hL1
    | succ k1 =>
      rw [Q.heldAtomS_l1] at hL1
      refine W_seq ?_
      refine W_seq_reg ?_
      refine WL_move rfl rfl ?_
      refine WL_move rfl rfl ?_
      refine WL_len Try.underlying90 g1 rfl rfl ?_
      refine WL_lss rfl rfl rfl ?_
      refine WL_nil ?_
      refine W_cond rfl (fun hc1 => ?_) (fun hc1 => ?_)
      · replace hL1 := ite_t hL1 hc1
        refine W_skip ?_
        refine nrm_normal ?_
        refine W_seq ?_
        refine W_block ?_
        refine W_seq ?_
        refine W_seq_reg ?_
        refine WL_move rfl rfl ?_
        refine WL_move rfl rfl ?_
        obtain ⟨x4, hx1, hL1⟩ := bind_some hL1
        refine WL_index Try.underlying90 ty123 g1 hx1 rfl rfl rfl (fun b1 o1 h1 => ?_)
        refine WL_field Try.underlying123 rfl rfl (fun w => ⟨_, Try.sizeOf3 w⟩) rfl rfl ?_
        refine WL_load ty3 h1.fst hC1.keep rfl rfl (fun v1 h2 => ?_)
        obtain rfl := ro_int h2
        refine WL_move rfl rfl ?_
        refine WL_neq rfl rfl rfl ?_
        refine WL_nil ?_
        refine W_cond rfl (fun hc2 => ?_) (fun hc2 => ?_)
        · replace hL1 := ite_t hL1 hc2
          refine W_seq_reg ?_
          refine WL_assign rfl rfl ?_
          refine WL_nil ?_
          refine W_ret ?_
          refine nrm_ret ?_
          refine blk_ret ?_
          refine nrm_ret ?_
          refine nrm_ret ?_
          refine blk_ret ?_
          refine nrm_ret ?_
          refine nrm_ret ?_
          have hq1 := Option.some.inj hL1
          subst hq1
          dsimp only at hF
          have hq2 := Option.some.inj hF
          subst hq2
          refine fn_ret1 rfl rfl ?_
          exact ⟨_, rfl, int_res hC1 _⟩
        · replace hL1 := ite_f hL1 hc2
          refine W_skip ?_
          refine nrm_normal ?_
          refine W_seq_reg ?_
          refine WL_move rfl rfl ?_
          refine WL_add rfl rfl rfl ?_
          refine WL_assign rfl rfl ?_
          refine WL_nil ?_
          refine W_seq_reg ?_
          refine WL_move rfl rfl ?_
          refine WL_move rfl rfl ?_
          obtain ⟨x5, hx2, hL1⟩ := bind_some hL1
          refine WL_index Try.underlying90 ty123 g1 hx2 rfl rfl rfl (fun b2 o2 h3 => ?_)
          refine WL_field Try.underlying123 rfl rfl (fun w => ⟨_, Try.sizeOf27 w⟩) rfl rfl ?_
          refine WL_load ty27 h3.snd hC1.keep rfl rfl (fun v2 h4 => ?_)
          refine WL_move rfl rfl ?_
          obtain ⟨x6, hr2, hL1⟩ := bind_some hL1
          refine WL_call Try.call34 rfl rfl (c_Q_heldIntS x5.2 v2 (h4.now hC1.keep) (w64 (x1 + 1)) x6 hr2) ?_
          intro _ w2 hv1
          obtain ⟨rfl, hB2⟩ := res_int hv1
          have hC2 := hC1.grow hB2
          refine WL_assign rfl rfl ?_
          refine WL_nil ?_
          refine W_seq_reg ?_
          refine WL_move rfl rfl ?_
          refine WL_lss rfl rfl rfl ?_
          refine WL_nil ?_
          refine W_cond rfl (fun hc3 => ?_) (fun hc3 => ?_)
          · replace hL1 := ite_t hL1 hc3
            refine W_seq_reg ?_
            refine WL_assign rfl rfl ?_
            refine WL_nil ?_
            refine W_ret ?_
            refine blk_ret ?_
            refine nrm_ret ?_
            refine nrm_ret ?_
            refine blk_ret ?_
            refine nrm_ret ?_
            refine nrm_ret ?_
            have hq3 := Option.some.inj hL1
            subst hq3
            dsimp only at hF
            have hq4 := Option.some.inj hF
            subst hq4
            refine fn_ret1 rfl rfl ?_
            exact ⟨_, rfl, int_res hC2 _⟩
          · replace hL1 := ite_f hL1 hc3
            refine W_skip ?_
            refine blk_normal ?_
            refine nrm_normal ?_
            refine W_reg ?_
            refine WL_move rfl rfl ?_
            refine WL_add rfl rfl rfl ?_
            refine WL_assign rfl rfl ?_
            refine WL_nil ?_
            refine nrm_sub (l' := [(0, u1), (1, (.int .i64 x6)), (5, (.int .i64 (w64 (x2 + 1))))]) ⟨rfl, rfl, rfl, trivial⟩ ?_
            exact ⟨k1, Nat.lt_succ_self _, x6, w64 (x2 + 1), rfl, ((Keep.of hB1).then hB2).below, hC2, hL1⟩
      · replace hL1 := ite_f hL1 hc1
        refine W_exit ?_
        refine nrm_exit ?_
        refine nrm_exit ?_
        refine blk_exit ?_
        have hq5 := Option.some.inj hL1
        subst hq5
        refine nrm_sub (l' := [(1, (.int .i64 x1))]) ⟨rfl, trivial⟩ ?_
        exact ⟨x1, rfl, rfl, (Keep.of hB1).below, hC1⟩
  · rintro l2 _ w3 hs2 ⟨x3, rfl, rfl, hB3, hC3⟩
    try dsimp only at hF
    refine nrm_sub' hs2 ?_
    clear hs2
    refine W_seq_reg ?_
    refine WL_move rfl rfl ?_
    refine WL_assign rfl rfl ?_
    refine WL_nil ?_
    refine W_ret ?_
    have hq6 := Option.some.inj hF
    subst hq6
    refine fn_ret1 rfl rfl ?_
    exact ⟨_, rfl, int_res hC3 _⟩

theorem c_Q_heldQuery {w0 : World} (a1 : ((List Int) × (List (Int × (List Int))))) (u1 : Value) (g1 : RO [] w0 u1 a1.1) (u2 : Value) (g2 : RO [] w0 u2 a1.2) (a2 : Int) (rr : Int) (hF : Q.heldQuery a1 a2 = some rr) :
    Calls Try.prog 74 [(.agg #[u1, u2]), (.int .i64 a2)].toArray w0 fun e w' => ∃ v, e = .returned v ∧ Res w0 rr v w' := by
  refine calls_of_W Try.func74 rfl rfl ?_
  have hC0 := Ctx.start w0
  unfold Q.heldQuery at hF
  refine W_seq_reg ?_
  refine WL_box (cs := [u1, u2]) hC0 rfl rfl rfl (fun b1 w1 hC1 hB1 => ?_)
  refine WL_assign rfl rfl ?_
  refine WL_nil ?_
  refine W_seq_reg ?_
  refine WL_field Try.underlying92 rfl rfl (fun w => ⟨_, Try.sizeOf27 w⟩) rfl rfl ?_
  refine WL_load_box hC1 0 rfl rfl Try.isAgg27 rfl rfl ?_
  refine WL_move rfl rfl ?_
  obtain ⟨x1, hr1, hF⟩ := bind_some hF
  refine WL_call Try.call34 rfl rfl (c_Q_heldIntS a1.1 u1 (g1.now hC1.keep) a2 x1 hr1) ?_
  intro _ w2 hv1
  obtain ⟨rfl, hB2⟩ := res_int hv1
  have hC2 := hC1.grow hB2
  refine WL_assign rfl rfl ?_
  refine WL_nil ?_
  refine W_seq ?_
  refine W_seq_reg ?_
  refine WL_move rfl rfl ?_
  refine WL_lss rfl rfl rfl ?_
  refine WL_nil ?_
  refine W_cond rfl (fun hc1 => ?_) (fun hc1 => ?_)
  · replace hF := ite_t hF hc1
    refine W_seq_reg ?_
    refine WL_assign rfl rfl ?_
    refine WL_nil ?_
    refine W_ret ?_
    refine nrm_ret ?_
    have hq1 := Option.some.inj hF
    subst hq1
    refine fn_ret1 rfl rfl ?_
    exact ⟨_, rfl, int_res hC2 _⟩
  · replace hF := ite_f hF hc1
    refine W_skip ?_
    refine nrm_normal ?_
    refine W_seq_reg ?_
    refine WL_field Try.underlying92 rfl rfl (fun w => ⟨_, Try.sizeOf90 w⟩) rfl rfl ?_
    refine WL_load_box hC2 0 rfl rfl Try.isAgg90 rfl rfl ?_
    refine WL_move rfl rfl ?_
    obtain ⟨x2, hr2, hF⟩ := bind_some hF
    refine WL_call Try.call114 rfl rfl (c_Q_heldAtomS a1.2 u2 (g2.now hC2.keep) x1 x2 hr2) ?_
    intro _ w3 hv2
    obtain ⟨rfl, hB3⟩ := res_int hv2
    have hC3 := hC2.grow hB3
    refine WL_assign rfl rfl ?_
    refine WL_nil ?_
    refine W_seq ?_
    refine W_seq_reg ?_
    refine WL_move rfl rfl ?_
    refine WL_lss rfl rfl rfl ?_
    refine WL_nil ?_
    refine W_cond rfl (fun hc2 => ?_) (fun hc2 => ?_)
    · replace hF := ite_t hF hc2
      refine W_seq_reg ?_
      refine WL_assign rfl rfl ?_
      refine WL_nil ?_
      refine W_ret ?_
      refine nrm_ret ?_
      have hq2 := Option.some.inj hF
      subst hq2
      refine fn_ret1 rfl rfl ?_
      exact ⟨_, rfl, int_res hC3 _⟩
    · replace hF := ite_f hF hc2
      refine W_skip ?_
      refine nrm_normal ?_
      refine W_seq_reg ?_
      refine WL_move rfl rfl ?_
      refine WL_assign rfl rfl ?_
      refine WL_nil ?_
      refine W_ret ?_
      have hq3 := Option.some.inj hF
      subst hq3
      refine fn_ret1 rfl rfl ?_
      exact ⟨_, rfl, int_res hC3 _⟩

end Go.Gx.Px
