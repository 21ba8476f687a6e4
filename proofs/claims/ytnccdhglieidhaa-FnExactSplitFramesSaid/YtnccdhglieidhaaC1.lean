/- The contracts of the Go functions against the pure functions, printed by program. Conditions: each says them. -/
import Derived.Test.YtnccdhglieidhaaTy
import Derived.Test.YtnccdhglieidhaaPure
set_option linter.unusedVariables false
set_option linter.unusedSimpArgs false
set_option maxRecDepth 100000
set_option maxHeartbeats 4000000
namespace Go.Gx.Px
open Go.Proofs Go.RowKit

theorem c_S_CheckByte {w0 : World} (a1 : Str) (rr : Int) (hF : S.CheckByte a1 = some rr) :
    Calls Try.prog 15 [(sv a1)].toArray w0 fun e w' => ∃ v, e = .returned v ∧ Res w0 rr v w' := by
  refine calls_of_W Try.func15 rfl rfl ?_
  have hC0 := Ctx.start w0
  unfold S.CheckByte at hF
  refine W_seq_reg ?_
  refine WL_assign rfl rfl ?_
  refine WL_nil ?_
  refine W_seq_reg ?_
  refine WL_assign rfl rfl ?_
  refine WL_nil ?_
  refine W_seq ?_
  refine W_seq_reg ?_
  refine WL_assign rfl rfl ?_
  refine WL_nil ?_
  obtain ⟨r1, hr1, hF⟩ := bind_some hF
  refine W_norm (fun l w => ∃ x3 : Int, x3 = r1 ∧ l = [(3, (.int .i64 x3))] ∧ Below w0.heap.size w0 w ∧ Ctx [] w0 w []) ?_ ?_
  · refine W_block ?_
    refine W.sub (l' := [(0, (sv a1)), (3, (.int .i64 7)), (4, (.int .i64 0))]) ?_ ⟨rfl, rfl, rfl, trivial⟩
    refine W_loop (fun k l w => ∃ x1 : Int, ∃ x2 : Int, l = [(0, (sv a1)), (3, (.int .i64 x1)), (4, (.int .i64 x2))] ∧ Below w0.heap.size w0 w ∧ Ctx [] w0 w [] ∧ S.CheckByte_l1 a1 k x1 x2 = some r1) FUEL ⟨7, 0, rfl, (Below.refl _ _), hC0, hr1⟩ ?_
    clear hr1
    rintro k1 _ w1 ⟨x1, x2, rfl, hB1, hC1, hL1⟩
    cases k1 with
    | zero => rw [S.CheckByte_l1] at hL1; cases hL1
    | succ k1 =>
      rw [S.CheckByte_l1] at hL1
      refine W_seq ?_
      refine W_seq_reg ?_
      refine WL_move rfl rfl ?_
      refine WL_move rfl rfl ?_
      refine WL_len_str Try.underlying9 rfl rfl ?_
      refine WL_lss rfl rfl rfl ?_
      refine WL_nil ?_
      refine W_cond rfl (fun hc1 => ?_) (fun hc1 => ?_)
      · replace hL1 := ite_t hL1 hc1
        refine W_skip ?_
        refine nrm_normal ?_
        refine W_seq ?_
        refine W_block ?_
        refine W_reg ?_
        refine WL_move rfl rfl ?_
        refine WL_mul rfl rfl rfl ?_
        refine WL_move rfl rfl ?_
        refine WL_move rfl rfl ?_
        obtain ⟨x4, hx1, hL1⟩ := bind_some hL1
        refine WL_index_str Try.underlying9 hx1 rfl rfl rfl ?_
        refine WL_conv_i64 Try.underlying5 Try.underlying3 rfl rfl ?_
        refine WL_add rfl rfl rfl ?_
        refine WL_rem (by decide) rfl rfl rfl ?_
        refine WL_assign rfl rfl ?_
        refine WL_nil ?_
        refine blk_normal ?_
        refine nrm_normal ?_
        refine W_reg ?_
        refine WL_move rfl rfl ?_
        refine WL_add rfl rfl rfl ?_
        refine WL_assign rfl rfl ?_
        refine WL_nil ?_
        refine nrm_sub (l' := [(0, (sv a1)), (3, (.int .i64 ((w64 ((w64 (x1 * 31)) + (w64 (UInt8.toNat x4 : Int)))).tmod 251))), (4, (.int .i64 (w64 (x2 + 1))))]) ⟨rfl, rfl, rfl, trivial⟩ ?_
        exact ⟨k1, Nat.lt_succ_self _, (w64 ((w64 (x1 * 31)) + (w64 (UInt8.toNat x4 : Int)))).tmod 251, w64 (x2 + 1), rfl, (Keep.of hB1).below, hC1, hL1⟩
      · replace hL1 := ite_f hL1 hc1
        refine W_exit ?_
        refine nrm_exit ?_
        refine nrm_exit ?_
        refine blk_exit ?_
        have hq1 := Option.some.inj hL1
        subst hq1
        refine nrm_sub (l' := [(3, (.int .i64 x1))]) ⟨rfl, trivial⟩ ?_
        exact ⟨x1, rfl, rfl, (Keep.of hB1).below, hC1⟩
  · rintro l2 _ w2 hs2 ⟨x3, rfl, rfl, hB2, hC2⟩
    try dsimp only at hF
    refine nrm_sub' hs2 ?_
    clear hs2
    refine W_seq_reg ?_
    refine WL_move rfl rfl ?_
    refine WL_assign rfl rfl ?_
    refine WL_nil ?_
    refine W_ret ?_
    have hq2 := Option.some.inj hF
    subst hq2
    refine fn_ret1 rfl rfl ?_
    exact ⟨_, rfl, int_res hC2 _⟩

theorem c_S_l1In {w0 : World} (a1 : Int) (a2 : Int) (a3 : Int) (rr : Bool) (hF : S.l1In a1 a2 a3 = some rr) :
    Calls Try.prog 79 [(.int .i64 a1), (.int .i64 a2), (.int .i64 a3)].toArray w0 fun e w' => ∃ v, e = .returned v ∧ Res w0 rr v w' := by
  refine calls_of_W Try.func79 rfl rfl ?_
  have hC0 := Ctx.start w0
  unfold S.l1In at hF
  refine W_seq_reg ?_
  refine WL_assign rfl rfl ?_
  refine WL_nil ?_
  obtain ⟨r1, hr1, hF⟩ := bind_some hF
  refine W_cut (fun l w => ∃ x1 : Bool, x1 = r1 ∧ l = [(6, (.bool x1))] ∧ Below w0.heap.size w0 w ∧ Ctx [] w0 w []) ?_ ?_
  · refine W_reg ?_
    refine WL_move rfl rfl ?_
    refine WL_move rfl rfl ?_
    refine WL_geq rfl rfl rfl ?_
    refine WL_move rfl rfl ?_
    refine WL_fork (fun hc1 => ?_) (fun hc1 => ?_)
    · replace hr1 := ite_t hr1 hc1
      refine WL_guard rfl rfl ?_
      refine WL_move rfl rfl ?_
      refine WL_guard rfl rfl ?_
      refine WL_move rfl rfl ?_
      refine WL_guard rfl rfl ?_
      refine WL_leq rfl rfl rfl ?_
      refine WL_pick_t rfl rfl rfl ?_
      refine WL_assign rfl rfl ?_
      refine WL_nil ?_
      have hq1 := Option.some.inj hr1
      subst hq1
      refine nrm_sub (l' := [(6, (.bool (decide (a1 ≤ a3))))]) ⟨rfl, trivial⟩ ?_
      exact ⟨(decide (a1 ≤ a3)), rfl, rfl, (Below.refl _ _), hC0⟩
    · replace hr1 := ite_f hr1 hc1
      refine WL_guard_skip rfl rfl (by simp) rfl ?_
      refine WL_guard_skip rfl rfl (by simp) rfl ?_
      refine WL_guard_skip rfl rfl (by simp) rfl ?_
      refine WL_pick_f rfl rfl rfl ?_
      refine WL_assign rfl rfl ?_
      refine WL_nil ?_
      have hq2 := Option.some.inj hr1
      subst hq2
      refine nrm_sub (l' := [(6, (.bool false))]) ⟨rfl, trivial⟩ ?_
      exact ⟨false, rfl, rfl, (Below.refl _ _), hC0⟩
  · rintro _ w1 ⟨x1, rfl, rfl, hB1, hC1⟩
    try dsimp only at hF
    refine W_ret ?_
    have hq3 := Option.some.inj hF
    subst hq3
    refine fn_ret1 rfl rfl ?_
    exact ⟨_, rfl, bool_res hC1 _⟩

theorem c_S_EncodeFixed {w0 : World} (a1 : Int) (a2 : Int) (rr : Str) (hF : S.EncodeFixed a1 a2 = some rr) :
    Calls Try.prog 76 [(.int .i64 a1), (.int .i64 a2)].toArray w0 fun e w' => ∃ v, e = .returned v ∧ Res w0 rr v w' := by
  refine calls_of_W Try.func76 rfl rfl ?_
  have hC0 := Ctx.start w0
  unfold S.EncodeFixed at hF
  refine W_seq_reg ?_
  refine WL_assign rfl rfl ?_
  refine WL_nil ?_
  refine W_seq ?_
  obtain ⟨r1, hr1, hF⟩ := bind_some hF
  refine W_cut (fun l w => ∃ x1 : Bool, x1 = r1 ∧ l = [(0, (.int .i64 a1)), (1, (.int .i64 a2)), (13, (.bool x1))] ∧ Below w0.heap.size w0 w ∧ Ctx [] w0 w []) ?_ ?_
  · refine W_reg ?_
    refine WL_move rfl rfl ?_
    obtain ⟨x2, hr2, hr1⟩ := bind_some hr1
    refine WL_call Try.call79 rfl rfl (c_S_l1In a2 1 7 x2 hr2) ?_
    intro _ w2 hv1
    obtain ⟨rfl, hB2⟩ := res_bool hv1
    have hC2 := hC0.grow hB2
    refine WL_not rfl rfl ?_
    refine WL_move rfl rfl ?_
    refine WL_fork (fun hc1 => ?_) (fun hc1 => ?_)
    · replace hr1 := ite_t hr1 hc1
      refine WL_guard_skip rfl rfl (by simp) rfl ?_
      refine WL_guard_skip rfl rfl (by simp) rfl ?_
      refine WL_pick_t rfl rfl rfl ?_
      refine WL_nil ?_
      have hq1 := Option.some.inj hr1
      subst hq1
      refine nrm_sub (l' := [(0, (.int .i64 a1)), (1, (.int .i64 a2)), (13, (.bool true))]) ⟨rfl, rfl, rfl, trivial⟩ ?_
      exact ⟨true, rfl, rfl, (Keep.of hB2).below, hC2⟩
    · replace hr1 := ite_f hr1 hc1
      refine WL_guard rfl rfl ?_
      refine WL_move rfl rfl ?_
      refine WL_guard rfl rfl ?_
      refine WL_lss rfl rfl rfl ?_
      refine WL_pick_f rfl rfl rfl ?_
      refine WL_nil ?_
      have hq2 := Option.some.inj hr1
      subst hq2
      refine nrm_sub (l' := [(0, (.int .i64 a1)), (1, (.int .i64 a2)), (13, (.bool (decide (a1 < 0))))]) ⟨rfl, rfl, rfl, trivial⟩ ?_
      exact ⟨(decide (a1 < 0)), rfl, rfl, (Keep.of hB2).below, hC2⟩
  · rintro _ w1 ⟨x1, rfl, rfl, hB1, hC1⟩
    try dsimp only at hF
    refine W_cond rfl (fun hc2 => ?_) (fun hc2 => ?_)
    · replace hF := ite_t hF hc2
      refine W_seq_reg ?_
      refine WL_assign rfl rfl ?_
      refine WL_nil ?_
      refine W_ret ?_
      refine nrm_ret ?_
      have hq3 := Option.some.inj hF
      subst hq3
      refine fn_ret1 rfl rfl ?_
      exact ⟨_, rfl, str_res hC1 _⟩
    · replace hF := ite_f hF hc2
      refine W_skip ?_
      refine nrm_normal ?_
      refine W_seq_reg ?_
      refine WL_assign rfl rfl ?_
      refine WL_nil ?_
      refine W_seq ?_
      refine W_seq_reg ?_
      refine WL_assign rfl rfl ?_
      refine WL_nil ?_
      obtain ⟨r2, hr3, hF⟩ := bind_some hF
      refine W_norm (fun l w => ∃ x6 : Int, ∃ x7 : Str, (x6, x7) = r2 ∧ l = [(0, (.int .i64 x6)), (5, (sv x7))] ∧ Below w1.heap.size w1 w ∧ Ctx [] w0 w []) ?_ ?_
      · refine W_block ?_
        refine W.sub (l' := [(0, (.int .i64 a1)), (1, (.int .i64 a2)), (5, (sv (str []))), (6, (.int .i64 0))]) ?_ ⟨rfl, rfl, rfl, rfl, trivial⟩
        refine W_loop (fun k l w => ∃ x3 : Int, ∃ x4 : Str, ∃ x5 : Int, l = [(0, (.int .i64 x3)), (1, (.int .i64 a2)), (5, (sv x4)), (6, (.int .i64 x5))] ∧ Below w1.heap.size w1 w ∧ Ctx [] w0 w [] ∧ S.EncodeFixed_l1 a2 k x3 x4 x5 = some r2) FUEL ⟨a1, (str []), 0, rfl, (Below.refl _ _), hC1, hr3⟩ ?_
        clear hr3
        rintro k1 _ w3 ⟨x3, x4, x5, rfl, hB3, hC3, hL1⟩
        cases k1 with
        | zero => rw [S.EncodeFixed_l1] at hL1; cases hL1
        | succ k1 =>
          rw [S.EncodeFixed_l1] at hL1
          refine W_seq ?_
          refine W_seq_reg ?_
          refine WL_move rfl rfl ?_
          refine WL_move rfl rfl ?_
          refine WL_lss rfl rfl rfl ?_
          refine WL_nil ?_
          refine W_cond rfl (fun hc3 => ?_) (fun hc3 => ?_)
          · replace hL1 := ite_t hL1 hc3
            refine W_skip ?_
            refine nrm_normal ?_
            refine W_seq ?_
            refine W_block ?_
            refine W_seq_reg ?_
            refine WL_move rfl rfl ?_
            refine WL_rem (by decide) rfl rfl rfl ?_
            refine WL_conv_u8 Try.underlying3 Try.underlying5 rfl rfl ?_
            refine WL_buildSlice (vs := [(.int .u8 (w8 (x3.tmod 256)))]) hC3 Try.underlying71 ty5 rfl rfl rfl rfl (by intro v hv; simp only [List.mem_cons, List.not_mem_nil, or_false] at hv; rcases hv with rfl <;> rfl) rfl rfl (fun b1 w4 hC4 hB4 => ?_)
            have hC5 := hC4.row0 (α := UInt8)
            have hC6 := hC5.triv (u8_val (x3.tmod 256))
            have hC7 := hC6.row1
            have hC8 := hC7.front 1 rfl
            dsimp only [List.eraseIdx, List.cons_append, List.nil_append, List.append_nil] at hC8
            have hC9 : Ctx [] w0 w4 (Item.own (.slice (some ⟨b1, 0, none⟩) 1 1) ([(u8 (x3.tmod 256))] : List UInt8) :: []) := hC8.rowOwn (by simp [maxLen])
            refine WL_conv_bytes Try.underlying71 Try.underlying5 Try.underlying9 (hC9.ro 0 rfl) (Keep.refl _ _) rfl rfl ?_
            refine WL_move rfl rfl ?_
            obtain ⟨x8, hx1, hL1⟩ := bind_some hL1
            refine WL_str_add hx1 rfl rfl rfl ?_
            refine WL_assign rfl rfl ?_
            refine WL_nil ?_
            refine W_reg ?_
            refine WL_move rfl rfl ?_
            refine WL_quo (by decide) rfl rfl rfl ?_
            refine WL_assign rfl rfl ?_
            refine WL_nil ?_
            refine blk_normal ?_
            refine nrm_normal ?_
            refine W_reg ?_
            refine WL_move rfl rfl ?_
            refine WL_add rfl rfl rfl ?_
            refine WL_assign rfl rfl ?_
            refine WL_nil ?_
            have hC10 : Ctx [] w0 _ [] := hC9.headN 0
            refine nrm_sub (l' := [(0, (.int .i64 (w64 (x3.tdiv 256)))), (1, (.int .i64 a2)), (5, (sv x8)), (6, (.int .i64 (w64 (x5 + 1))))]) ⟨rfl, rfl, rfl, rfl, trivial⟩ ?_
            exact ⟨k1, Nat.lt_succ_self _, w64 (x3.tdiv 256), x8, w64 (x5 + 1), rfl, ((Keep.of hB3).then hB4).below, hC10, hL1⟩
          · replace hL1 := ite_f hL1 hc3
            refine W_exit ?_
            refine nrm_exit ?_
            refine nrm_exit ?_
            refine blk_exit ?_
            have hq4 := Option.some.inj hL1
            subst hq4
            refine nrm_sub (l' := [(0, (.int .i64 x3)), (5, (sv x4))]) ⟨rfl, rfl, trivial⟩ ?_
            exact ⟨x3, x4, rfl, rfl, (Keep.of hB3).below, hC3⟩
      · rintro l3 _ w5 hs3 ⟨x6, x7, rfl, rfl, hB5, hC11⟩
        try dsimp only at hF
        refine nrm_sub' hs3 ?_
        clear hs3
        refine W_seq ?_
        refine W_seq_reg ?_
        refine WL_move rfl rfl ?_
        refine WL_gtr rfl rfl rfl ?_
        refine WL_nil ?_
        refine W_cond rfl (fun hc4 => ?_) (fun hc4 => ?_)
        · replace hF := ite_t hF hc4
          refine W_seq_reg ?_
          refine WL_assign rfl rfl ?_
          refine WL_nil ?_
          refine W_ret ?_
          refine nrm_ret ?_
          have hq5 := Option.some.inj hF
          subst hq5
          refine fn_ret1 rfl rfl ?_
          exact ⟨_, rfl, str_res hC11 _⟩
        · replace hF := ite_f hF hc4
          refine W_skip ?_
          refine nrm_normal ?_
          refine W_seq_reg ?_
          refine WL_move rfl rfl ?_
          refine WL_assign rfl rfl ?_
          refine WL_nil ?_
          refine W_ret ?_
          have hq6 := Option.some.inj hF
          subst hq6
          refine fn_ret1 rfl rfl ?_
          exact ⟨_, rfl, str_res hC11 _⟩

theorem c_S_EncodeVarint {w0 : World} (a1 : Int) (rr : Str) (hF : S.EncodeVarint a1 = some rr) :
    Calls Try.prog 75 [(.int .i64 a1)].toArray w0 fun e w' => ∃ v, e = .returned v ∧ Res w0 rr v w' := by
  refine calls_of_W Try.func75 rfl rfl ?_
  have hC0 := Ctx.start w0
  unfold S.EncodeVarint at hF
  refine W_seq_reg ?_
  refine WL_assign rfl rfl ?_
  refine WL_nil ?_
  refine W_seq ?_
  refine W_seq_reg ?_
  refine WL_move rfl rfl ?_
  obtain ⟨x1, hr1, hF⟩ := bind_some hF
  refine WL_call Try.call79 rfl rfl (c_S_l1In a1 0 562949953421311 x1 hr1) ?_
  intro _ w1 hv1
  obtain ⟨rfl, hB1⟩ := res_bool hv1
  have hC1 := hC0.grow hB1
  refine WL_not rfl rfl ?_
  refine WL_nil ?_
  refine W_cond rfl (fun hc1 => ?_) (fun hc1 => ?_)
  · replace hF := ite_t hF hc1
    refine W_seq_reg ?_
    refine WL_assign rfl rfl ?_
    refine WL_nil ?_
    refine W_ret ?_
    refine nrm_ret ?_
    have hq1 := Option.some.inj hF
    subst hq1
    refine fn_ret1 rfl rfl ?_
    exact ⟨_, rfl, str_res hC1 _⟩
  · replace hF := ite_f hF hc1
    refine W_skip ?_
    refine nrm_normal ?_
    refine W_seq_reg ?_
    refine WL_buildSlice (vs := []) hC1 Try.underlying71 ty5 rfl rfl rfl rfl (by simp) rfl rfl (fun b1 w2 hC2 hB2 => ?_)
    have hC3 := hC2.row0 (α := UInt8)
    have hC4 := hC3.front 1 rfl
    dsimp only [List.eraseIdx, List.cons_append, List.nil_append, List.append_nil] at hC4
    have hC5 : Ctx [] w0 w2 (Item.own (.slice (some ⟨b1, 0, none⟩) 0 0) (([] : List UInt8) : List UInt8) :: []) := hC4.rowOwn (by simp [maxLen])
    refine WL_assign rfl rfl ?_
    refine WL_nil ?_
    refine W_seq ?_
    obtain ⟨r1, hr2, hF⟩ := bind_some hF
    refine W_norm (fun l w => ∃ x4 : Int, ∃ v2 : Value, ∃ x5 : (List UInt8), (x4, x5) = r1 ∧ l = [(0, (.int .i64 x4)), (3, v2)] ∧ Ctx [] w0 w [Item.own v2 (x5 : (List UInt8))]) ?_ ?_
    · refine W_block ?_
      refine W.sub (l' := [(0, (.int .i64 a1)), (3, (.slice (some ⟨b1, 0, none⟩) 0 0))]) ?_ ⟨rfl, rfl, trivial⟩
      refine W_loop (fun k l w => ∃ x2 : Int, ∃ v1 : Value, ∃ x3 : (List UInt8), l = [(0, (.int .i64 x2)), (3, v1)] ∧ Ctx [] w0 w [Item.own v1 (x3 : (List UInt8))] ∧ S.EncodeVarint_l1 k x2 x3 = some r1) FUEL ⟨a1, (.slice (some ⟨b1, 0, none⟩) 0 0), ([] : List UInt8), rfl, hC5, hr2⟩ ?_
      clear hr2
      rintro k1 _ w3 ⟨x2, v1, x3, rfl, hC6, hL1⟩
      cases k1 with
      | zero => rw [S.EncodeVarint_l1] at hL1; cases hL1
      | succ k1 =>
        rw [S.EncodeVarint_l1] at hL1
        refine W_seq ?_
        refine W_seq_reg ?_
        refine WL_move rfl rfl ?_
        refine WL_geq rfl rfl rfl ?_
        refine WL_nil ?_
        refine W_cond rfl (fun hc2 => ?_) (fun hc2 => ?_)
        · replace hL1 := ite_t hL1 hc2
          refine W_skip ?_
          refine nrm_normal ?_
          refine W_block ?_
          refine W_seq_reg ?_
          refine WL_move rfl rfl ?_
          refine WL_move rfl rfl ?_
          refine WL_rem (by decide) rfl rfl rfl ?_
          refine WL_add rfl rfl rfl ?_
          refine WL_conv_u8 Try.underlying3 Try.underlying5 rfl rfl ?_
          refine WL_buildSlice (vs := [(.int .u8 (w8 (w64 (128 + (x2.tmod 128)))))]) hC6 Try.underlying71 ty5 rfl rfl rfl rfl (by intro v hv; simp only [List.mem_cons, List.not_mem_nil, or_false] at hv; rcases hv with rfl <;> rfl) rfl rfl (fun b2 w4 hC7 hB4 => ?_)
          have hC8 := hC7.row0 (α := UInt8)
          have hC9 := hC8.triv (u8_val (w64 (128 + (x2.tmod 128))))
          have hC10 := hC9.row1
          have hC11 := hC10.front 1 rfl
          dsimp only [List.eraseIdx, List.cons_append, List.nil_append, List.append_nil] at hC11
          have hC12 : Ctx [] w0 w4 (Item.own (.slice (some ⟨b2, 0, none⟩) 1 1) ([(u8 (w64 (128 + (x2.tmod 128))))] : List UInt8) :: [Item.own v1 (x3 : (List UInt8))]) := hC11.rowOwn (by simp [maxLen])
          obtain ⟨x6, hx1, hL1⟩ := bind_some hL1
          refine WL_append_flat (α := UInt8) hC12 1 rfl (hC12.ro 0 rfl) (Keep.refl _ _) Try.underlying71 ty5 rfl hx1 rfl rfl rfl (fun v3 w5 hC13 => ?_)
          try dsimp only [List.set] at hC13
          refine WL_assign rfl rfl ?_
          refine WL_nil ?_
          refine W_reg ?_
          refine WL_move rfl rfl ?_
          refine WL_quo (by decide) rfl rfl rfl ?_
          refine WL_assign rfl rfl ?_
          refine WL_nil ?_
          refine blk_normal ?_
          have hC14 : Ctx [] w0 _ [Item.own v3 (x6 : (List UInt8)), Item.own (.slice (some ⟨b2, 0, none⟩) 1 1) ([(u8 (w64 (128 + (x2.tmod 128))))] : (List UInt8))] := hC13.front 1 rfl
          have hC15 : Ctx [] w0 _ [Item.own v3 (x6 : (List UInt8))] := hC14.headN 1
          refine nrm_sub (l' := [(0, (.int .i64 (w64 (x2.tdiv 128)))), (3, v3)]) ⟨rfl, rfl, trivial⟩ ?_
          exact ⟨k1, Nat.lt_succ_self _, w64 (x2.tdiv 128), v3, x6, rfl, hC15, hL1⟩
        · replace hL1 := ite_f hL1 hc2
          refine W_exit ?_
          refine nrm_exit ?_
          refine nrm_exit ?_
          refine blk_exit ?_
          have hq2 := Option.some.inj hL1
          subst hq2
          refine nrm_sub (l' := [(0, (.int .i64 x2)), (3, v1)]) ⟨rfl, rfl, trivial⟩ ?_
          exact ⟨x2, v1, x3, rfl, rfl, hC6⟩
    · rintro l2 _ w6 hs2 ⟨x4, v2, x5, rfl, rfl, hC16⟩
      try dsimp only at hF
      refine nrm_sub' hs2 ?_
      clear hs2
      refine W_seq_reg ?_
      refine WL_move rfl rfl ?_
      refine WL_move rfl rfl ?_
      refine WL_conv_u8 Try.underlying3 Try.underlying5 rfl rfl ?_
      refine WL_buildSlice (vs := [(.int .u8 (w8 x4))]) hC16 Try.underlying71 ty5 rfl rfl rfl rfl (by intro v hv; simp only [List.mem_cons, List.not_mem_nil, or_false] at hv; rcases hv with rfl <;> rfl) rfl rfl (fun b3 w7 hC17 hB6 => ?_)
      have hC18 := hC17.row0 (α := UInt8)
      have hC19 := hC18.triv (u8_val x4)
      have hC20 := hC19.row1
      have hC21 := hC20.front 1 rfl
      dsimp only [List.eraseIdx, List.cons_append, List.nil_append, List.append_nil] at hC21
      have hC22 : Ctx [] w0 w7 (Item.own (.slice (some ⟨b3, 0, none⟩) 1 1) ([(u8 x4)] : List UInt8) :: [Item.own v2 (x5 : (List UInt8))]) := hC21.rowOwn (by simp [maxLen])
      obtain ⟨x7, hx2, hF⟩ := bind_some hF
      refine WL_append_flat (α := UInt8) hC22 1 rfl (hC22.ro 0 rfl) (Keep.refl _ _) Try.underlying71 ty5 rfl hx2 rfl rfl rfl (fun v4 w8 hC23 => ?_)
      try dsimp only [List.set] at hC23
      refine WL_conv_bytes Try.underlying71 Try.underlying5 Try.underlying9 (hC23.ro 1 rfl) (Keep.refl _ _) rfl rfl ?_
      refine WL_assign rfl rfl ?_
      refine WL_nil ?_
      refine W_ret ?_
      have hq3 := Option.some.inj hF
      subst hq3
      refine fn_ret1 rfl rfl ?_
      exact ⟨_, rfl, str_res hC23 _⟩

theorem c_S_DecodeVarint {w0 : World} (a1 : Str) (rr : (Int × Int)) (hF : S.DecodeVarint a1 = some rr) :
    Calls Try.prog 93 [(sv a1)].toArray w0 fun e w' => ∃ v, e = .returned v ∧ Res2 w0 rr.1 rr.2 v w' := by
  refine calls_of_W Try.func93 rfl rfl ?_
  have hC0 := Ctx.start w0
  unfold S.DecodeVarint at hF
  refine W_seq_reg ?_
  refine WL_assign rfl rfl ?_
  refine WL_assign rfl rfl ?_
  refine WL_nil ?_
  refine W_seq ?_
  refine W_seq_reg ?_
  refine WL_assign rfl rfl ?_
  refine WL_nil ?_
  obtain ⟨r1, hr1, hF⟩ := bind_some hF
  refine W_norm (fun l w => .inl () = r1 ∧ l = [] ∧ Below w0.heap.size w0 w ∧ Ctx [] w0 w []) ?_ ?_
  · refine W_block ?_
    refine W.sub (l' := [(0, (sv a1)), (4, (.int .i64 1))]) ?_ ⟨rfl, rfl, trivial⟩
    refine W_loop (fun k l w => ∃ x1 : Int, l = [(0, (sv a1)), (4, (.int .i64 x1))] ∧ Below w0.heap.size w0 w ∧ Ctx [] w0 w [] ∧ S.DecodeVarint_l1 a1 k x1 = some r1) FUEL ⟨1, rfl, (Below.refl _ _), hC0, hr1⟩ ?_
    clear hr1
    rintro k1 _ w1 ⟨x1, rfl, hB1, hC1, hL1⟩
    cases k1 with
    | zero => rw [S.DecodeVarint_l1] at hL1; cases hL1
    | succ k1 =>
      rw [S.DecodeVarint_l1] at hL1
      refine W_seq ?_
      obtain ⟨r2, hr2, hL1⟩ := bind_some hL1
      refine W_cut (fun l w => ∃ x2 : Bool, x2 = r2 ∧ l = [(0, (sv a1)), (4, (.int .i64 x1)), (14, (.bool x2))] ∧ Below w1.heap.size w1 w ∧ Ctx [] w0 w []) ?_ ?_
      · refine W_reg ?_
        refine WL_move rfl rfl ?_
        refine WL_leq rfl rfl rfl ?_
        refine WL_move rfl rfl ?_
        refine WL_fork (fun hc1 => ?_) (fun hc1 => ?_)
        · replace hr2 := ite_t hr2 hc1
          refine WL_guard rfl rfl ?_
          refine WL_move rfl rfl ?_
          refine WL_guard rfl rfl ?_
          refine WL_move rfl rfl ?_
          refine WL_guard rfl rfl ?_
          refine WL_len_str Try.underlying9 rfl rfl ?_
          refine WL_guard rfl rfl ?_
          refine WL_leq rfl rfl rfl ?_
          refine WL_pick_t rfl rfl rfl ?_
          refine WL_nil ?_
          have hq1 := Option.some.inj hr2
          subst hq1
          refine nrm_sub (l' := [(0, (sv a1)), (4, (.int .i64 x1)), (14, (.bool (decide (x1 ≤ (List.length a1 : Int)))))]) ⟨rfl, rfl, rfl, trivial⟩ ?_
          exact ⟨(decide (x1 ≤ (List.length a1 : Int))), rfl, rfl, (Below.refl _ _), hC1⟩
        · replace hr2 := ite_f hr2 hc1
          refine WL_guard_skip rfl rfl (by simp) rfl ?_
          refine WL_guard_skip rfl rfl (by simp) rfl ?_
          refine WL_guard_skip rfl rfl (by simp) rfl ?_
          refine WL_guard_skip rfl rfl (by simp) rfl ?_
          refine WL_pick_f rfl rfl rfl ?_
          refine WL_nil ?_
          have hq2 := Option.some.inj hr2
          subst hq2
          refine nrm_sub (l' := [(0, (sv a1)), (4, (.int .i64 x1)), (14, (.bool false))]) ⟨rfl, rfl, rfl, trivial⟩ ?_
          exact ⟨false, rfl, rfl, (Below.refl _ _), hC1⟩
      · rintro _ w2 ⟨x2, rfl, rfl, hB2, hC2⟩
        try dsimp only at hL1
        refine W_cond rfl (fun hc2 => ?_) (fun hc2 => ?_)
        · replace hL1 := ite_t hL1 hc2
          refine W_skip ?_
          refine nrm_normal ?_
          refine W_seq ?_
          refine W_block ?_
          refine W_seq_reg ?_
          refine WL_assign rfl rfl ?_
          refine WL_nil ?_
          refine W_seq ?_
          refine W_seq_reg ?_
          refine WL_move rfl rfl ?_
          refine WL_sub rfl rfl rfl ?_
          refine WL_assign rfl rfl ?_
          refine WL_nil ?_
          obtain ⟨r3, hr3, hL1⟩ := bind_some hL1
          refine W_norm (fun l w => ∃ x5 : Int, x5 = r3 ∧ l = [(0, (sv a1)), (4, (.int .i64 x1)), (5, (.int .i64 x5))] ∧ Below w2.heap.size w2 w ∧ Ctx [] w0 w []) ?_ ?_
          · refine W_block ?_
            refine W.sub (l' := [(0, (sv a1)), (4, (.int .i64 x1)), (5, (.int .i64 0)), (6, (.int .i64 (w64 (x1 - 1))))]) ?_ ⟨rfl, rfl, rfl, rfl, trivial⟩
            refine W_loop (fun k l w => ∃ x3 : Int, ∃ x4 : Int, l = [(0, (sv a1)), (4, (.int .i64 x1)), (5, (.int .i64 x3)), (6, (.int .i64 x4))] ∧ Below w2.heap.size w2 w ∧ Ctx [] w0 w [] ∧ S.DecodeVarint_l2 a1 k x3 x4 = some r3) FUEL ⟨0, w64 (x1 - 1), rfl, (Below.refl _ _), hC2, hr3⟩ ?_
            clear hr3
            rintro k2 _ w3 ⟨x3, x4, rfl, hB3, hC3, hL2⟩
            cases k2 with
            | zero => rw [S.DecodeVarint_l2] at hL2; cases hL2
            | succ k2 =>
              rw [S.DecodeVarint_l2] at hL2
              refine W_seq ?_
              refine W_seq_reg ?_
              refine WL_move rfl rfl ?_
              refine WL_geq rfl rfl rfl ?_
              refine WL_nil ?_
              refine W_cond rfl (fun hc3 => ?_) (fun hc3 => ?_)
              · replace hL2 := ite_t hL2 hc3
                refine W_skip ?_
                refine nrm_normal ?_
                refine W_seq ?_
                refine W_block ?_
                refine W_reg ?_
                refine WL_move rfl rfl ?_
                refine WL_mul rfl rfl rfl ?_
                refine WL_move rfl rfl ?_
                refine WL_move rfl rfl ?_
                obtain ⟨x6, hx1, hL2⟩ := bind_some hL2
                refine WL_index_str Try.underlying9 hx1 rfl rfl rfl ?_
                refine WL_conv_i64 Try.underlying5 Try.underlying3 rfl rfl ?_
                refine WL_rem (by decide) rfl rfl rfl ?_
                refine WL_add rfl rfl rfl ?_
                refine WL_assign rfl rfl ?_
                refine WL_nil ?_
                refine blk_normal ?_
                refine nrm_normal ?_
                refine W_reg ?_
                refine WL_move rfl rfl ?_
                refine WL_sub rfl rfl rfl ?_
                refine WL_assign rfl rfl ?_
                refine WL_nil ?_
                refine nrm_sub (l' := [(0, (sv a1)), (4, (.int .i64 x1)), (5, (.int .i64 (w64 ((w64 (x3 * 128)) + ((w64 (UInt8.toNat x6 : Int)).tmod 128))))), (6, (.int .i64 (w64 (x4 - 1))))]) ⟨rfl, rfl, rfl, rfl, trivial⟩ ?_
                exact ⟨k2, Nat.lt_succ_self _, w64 ((w64 (x3 * 128)) + ((w64 (UInt8.toNat x6 : Int)).tmod 128)), w64 (x4 - 1), rfl, (Keep.of hB3).below, hC3, hL2⟩
              · replace hL2 := ite_f hL2 hc3
                refine W_exit ?_
                refine nrm_exit ?_
                refine nrm_exit ?_
                refine blk_exit ?_
                have hq3 := Option.some.inj hL2
                subst hq3
                refine nrm_sub (l' := [(0, (sv a1)), (4, (.int .i64 x1)), (5, (.int .i64 x3))]) ⟨rfl, rfl, rfl, trivial⟩ ?_
                exact ⟨x3, rfl, rfl, (Keep.of hB3).below, hC3⟩
          · rintro l4 _ w4 hs4 ⟨x5, rfl, rfl, hB4, hC4⟩
            try dsimp only at hL1
            refine nrm_sub' hs4 ?_
            clear hs4
            refine W_seq ?_
            refine W_drawn 6 rfl hmix (fun w5 hB5 => ?_)
            have hC5 := hC4.grow hB5
            refine WA_take 0 rfl (by kernel_rfl) (by kernel_rfl) (by kernel_rfl) rfl (fl_move rfl) ?_
            refine WL_move rfl rfl ?_
            refine WL_nil ?_
            refine WA_take 2 rfl (by kernel_rfl) (by kernel_rfl) (by kernel_rfl) rfl (fl_move rfl) ?_
            refine WL_move rfl rfl ?_
            refine WL_nil ?_
            refine WA_take 3 rfl (by kernel_rfl) (by kernel_rfl) (by kernel_rfl) rfl (fl_move rfl) ?_
            refine WL_move rfl rfl ?_
            refine WL_nil ?_
            obtain ⟨x7, hx2, hL1⟩ := bind_some hL1
            refine WA_take 4 rfl (by kernel_rfl) (by kernel_rfl) (by kernel_rfl) rfl (fl_slice_str_h Try.underlying9 hx2 rfl rfl) ?_
            refine WL_slice_str_h Try.underlying9 hx2 rfl rfl rfl ?_
            refine WL_nil ?_
            obtain ⟨x8, hr4, hL1⟩ := bind_some hL1
            refine WA_one 1 (by kernel_rfl) rfl ?_
            refine WL_call Try.call75 rfl rfl (c_S_EncodeVarint x5 x8 hr4) ?_
            intro _ w6 hv1
            obtain ⟨rfl, hB6⟩ := res_str hv1
            have hC6 := hC5.grow hB6
            refine WL_nil ?_
            refine WA_take 5 rfl (by kernel_rfl) (by kernel_rfl) (by kernel_rfl) rfl (fl_str_eql rfl rfl) ?_
            refine WL_str_eql rfl rfl rfl ?_
            refine WL_nil ?_
            refine WA_done (by kernel_rfl) ?_
            refine nrm_normal ?_
            refine W_cond rfl (fun hc4 => ?_) (fun hc4 => ?_)
            · replace hL1 := ite_t hL1 hc4
              refine W_seq_reg ?_
              refine WL_move rfl rfl ?_
              refine WL_move rfl rfl ?_
              refine WL_assign rfl rfl ?_
              refine WL_assign rfl rfl ?_
              refine WL_nil ?_
              refine W_ret ?_
              refine blk_ret ?_
              refine nrm_ret ?_
              refine nrm_ret ?_
              refine blk_ret ?_
              refine nrm_ret ?_
              refine nrm_ret ?_
              have hq4 := Option.some.inj hL1
              subst hq4
              dsimp only at hF
              have hq5 := Option.some.inj hF
              subst hq5
              refine fn_ret2 rfl rfl rfl ?_
              have hC7 := hC6.triv (int_val (x1))
              have hC8 := hC7.triv (int_val (x5))
              exact ⟨_, rfl, res2_of hC8⟩
            · replace hL1 := ite_f hL1 hc4
              refine W_skip ?_
              refine blk_normal ?_
              refine nrm_normal ?_
              refine W_reg ?_
              refine WL_move rfl rfl ?_
              refine WL_add rfl rfl rfl ?_
              refine WL_assign rfl rfl ?_
              refine WL_nil ?_
              refine nrm_sub (l' := [(0, (sv a1)), (4, (.int .i64 (w64 (x1 + 1))))]) ⟨rfl, rfl, trivial⟩ ?_
              exact ⟨k1, Nat.lt_succ_self _, w64 (x1 + 1), rfl, (((((Keep.of hB1).then hB2).then hB4).then hB5).then hB6).below, hC6, hL1⟩
        · replace hL1 := ite_f hL1 hc2
          refine W_exit ?_
          refine nrm_exit ?_
          refine nrm_exit ?_
          refine blk_exit ?_
          have hq6 := Option.some.inj hL1
          subst hq6
          refine nrm_sub (l' := []) trivial ?_
          exact ⟨rfl, rfl, ((Keep.of hB1).then hB2).below, hC2⟩
  · rintro l5 _ w7 hs5 ⟨rfl, rfl, hB7, hC9⟩
    try dsimp only at hF
    refine nrm_sub' hs5 ?_
    clear hs5
    refine W_seq_reg ?_
    refine WL_assign rfl rfl ?_
    refine WL_assign rfl rfl ?_
    refine WL_nil ?_
    refine W_ret ?_
    have hq7 := Option.some.inj hF
    subst hq7
    refine fn_ret2 rfl rfl rfl ?_
    have hC10 := hC9.triv (int_val (0))
    have hC11 := hC10.triv (int_val (0))
    exact ⟨_, rfl, res2_of hC11⟩

theorem c_S_l26Open {w0 : World} (a1 : Str) (rr : Bool) (hF : S.l26Open a1 = some rr) :
    Calls Try.prog 94 [(sv a1)].toArray w0 fun e w' => ∃ v, e = .returned v ∧ Res w0 rr v w' := by
  refine calls_of_W Try.func94 rfl rfl ?_
  have hC0 := Ctx.start w0
  unfold S.l26Open at hF
  refine W_seq_reg ?_
  refine WL_assign rfl rfl ?_
  refine WL_nil ?_
  refine W_seq ?_
  refine W_seq_reg ?_
  refine WL_assign rfl rfl ?_
  refine WL_nil ?_
  obtain ⟨r1, hr1, hF⟩ := bind_some hF
  refine W_norm (fun l w => .inl () = r1 ∧ l = [] ∧ Below w0.heap.size w0 w ∧ Ctx [] w0 w []) ?_ ?_
  · refine W_block ?_
    refine W.sub (l' := [(0, (sv a1)), (3, (.int .i64 0))]) ?_ ⟨rfl, rfl, trivial⟩
    refine W_loop (fun k l w => ∃ x1 : Int, l = [(0, (sv a1)), (3, (.int .i64 x1))] ∧ Below w0.heap.size w0 w ∧ Ctx [] w0 w [] ∧ S.l26Open_l1 a1 k x1 = some r1) FUEL ⟨0, rfl, (Below.refl _ _), hC0, hr1⟩ ?_
    clear hr1
    rintro k1 _ w1 ⟨x1, rfl, hB1, hC1, hL1⟩
    cases k1 with
    | zero => rw [S.l26Open_l1] at hL1; cases hL1
    | succ k1 =>
      rw [S.l26Open_l1] at hL1
      refine W_seq ?_
      refine W_seq_reg ?_
      refine WL_move rfl rfl ?_
      refine WL_move rfl rfl ?_
      refine WL_len_str Try.underlying9 rfl rfl ?_
      refine WL_lss rfl rfl rfl ?_
      refine WL_nil ?_
      refine W_cond rfl (fun hc1 => ?_) (fun hc1 => ?_)
      · replace hL1 := ite_t hL1 hc1
        refine W_skip ?_
        refine nrm_normal ?_
        refine W_seq ?_
        refine W_block ?_
        refine W_seq_reg ?_
        refine WL_move rfl rfl ?_
        refine WL_move rfl rfl ?_
        obtain ⟨x2, hx1, hL1⟩ := bind_some hL1
        refine WL_index_str Try.underlying9 hx1 rfl rfl rfl ?_
        refine WL_lss rfl rfl rfl ?_
        refine WL_nil ?_
        refine W_cond rfl (fun hc2 => ?_) (fun hc2 => ?_)
        · replace hL1 := ite_t hL1 hc2
          refine W_seq_reg ?_
          refine WL_assign rfl rfl ?_
          refine WL_nil ?_
          refine W_ret ?_
          refine blk_ret ?_
          refine nrm_ret ?_
          refine nrm_ret ?_
          refine blk_ret ?_
          refine nrm_ret ?_
          refine nrm_ret ?_
          have hq1 := Option.some.inj hL1
          subst hq1
          dsimp only at hF
          have hq2 := Option.some.inj hF
          subst hq2
          refine fn_ret1 rfl rfl ?_
          exact ⟨_, rfl, bool_res hC1 _⟩
        · replace hL1 := ite_f hL1 hc2
          refine W_skip ?_
          refine blk_normal ?_
          refine nrm_normal ?_
          refine W_reg ?_
          refine WL_move rfl rfl ?_
          refine WL_add rfl rfl rfl ?_
          refine WL_assign rfl rfl ?_
          refine WL_nil ?_
          refine nrm_sub (l' := [(0, (sv a1)), (3, (.int .i64 (w64 (x1 + 1))))]) ⟨rfl, rfl, trivial⟩ ?_
          exact ⟨k1, Nat.lt_succ_self _, w64 (x1 + 1), rfl, (Keep.of hB1).below, hC1, hL1⟩
      · replace hL1 := ite_f hL1 hc1
        refine W_exit ?_
        refine nrm_exit ?_
        refine nrm_exit ?_
        refine blk_exit ?_
        have hq3 := Option.some.inj hL1
        subst hq3
        refine nrm_sub (l' := []) trivial ?_
        exact ⟨rfl, rfl, (Keep.of hB1).below, hC1⟩
  · rintro l2 _ w2 hs2 ⟨rfl, rfl, hB2, hC2⟩
    try dsimp only at hF
    refine nrm_sub' hs2 ?_
    clear hs2
    refine W_seq_reg ?_
    refine WL_assign rfl rfl ?_
    refine WL_nil ?_
    refine W_ret ?_
    have hq4 := Option.some.inj hF
    subst hq4
    refine fn_ret1 rfl rfl ?_
    exact ⟨_, rfl, bool_res hC2 _⟩

theorem c_S_SplitFrames {w0 : World} (a1 : Str) (rr : ((List Str) × Str × Bool)) (hF : S.SplitFrames a1 = some rr) :
    Calls Try.prog 42 [(sv a1)].toArray w0 fun e w' => ∃ v, e = .returned v ∧ Res3 w0 rr.1 rr.2.1 rr.2.2 v w' := by
  refine calls_of_W Try.func42 rfl rfl ?_
  have hC0 := Ctx.start w0
  unfold S.SplitFrames at hF
  refine W_seq_reg ?_
  refine WL_assign rfl rfl ?_
  refine WL_assign rfl rfl ?_
  refine WL_assign rfl rfl ?_
  refine WL_nil ?_
  refine W_seq_reg ?_
  refine WL_buildSlice (vs := []) hC0 Try.underlying58 ty9 rfl rfl rfl rfl (by simp) rfl rfl (fun b1 w1 hC1 hB1 => ?_)
  have hC2 := hC1.row0 (α := Str)
  have hC3 := hC2.front 1 rfl
  dsimp only [List.eraseIdx, List.cons_append, List.nil_append, List.append_nil] at hC3
  have hC4 : Ctx [] w0 w1 (Item.own (.slice (some ⟨b1, 0, none⟩) 0 0) (([] : List Str) : List Str) :: []) := hC3.rowOwn (by simp [maxLen])
  refine WL_assign rfl rfl ?_
  refine WL_nil ?_
  refine W_seq ?_
  obtain ⟨r1, hr1, hF⟩ := bind_some hF
  refine W_norm (fun l w => ∃ v2 : Value, ∃ x3 : (List Str), .inl x3 = r1 ∧ l = [(5, v2)] ∧ Ctx [] w0 w [Item.own v2 (x3 : (List Str))]) ?_ ?_
  · refine W_block ?_
    refine W.sub (l' := [(0, (sv a1)), (5, (.slice (some ⟨b1, 0, none⟩) 0 0))]) ?_ ⟨rfl, rfl, trivial⟩
    refine W_loop (fun k l w => ∃ x1 : Str, ∃ v1 : Value, ∃ x2 : (List Str), l = [(0, (sv x1)), (5, v1)] ∧ Ctx [] w0 w [Item.own v1 (x2 : (List Str))] ∧ S.SplitFrames_l1 k x1 x2 = some r1) FUEL ⟨a1, (.slice (some ⟨b1, 0, none⟩) 0 0), ([] : List Str), rfl, hC4, hr1⟩ ?_
    clear hr1
    rintro k1 _ w2 ⟨x1, v1, x2, rfl, hC5, hL1⟩
    cases k1 with
    | zero => rw [S.SplitFrames_l1] at hL1; cases hL1
    | succ k1 =>
      rw [S.SplitFrames_l1] at hL1
      refine W_seq ?_
      refine W_seq_reg ?_
      refine WL_move rfl rfl ?_
      refine WL_len_str Try.underlying9 rfl rfl ?_
      refine WL_gtr rfl rfl rfl ?_
      refine WL_nil ?_
      refine W_cond rfl (fun hc1 => ?_) (fun hc1 => ?_)
      · replace hL1 := ite_t hL1 hc1
        refine W_skip ?_
        refine nrm_normal ?_
        refine W_block ?_
        refine W_seq_reg ?_
        refine WL_move rfl rfl ?_
        obtain ⟨x4, hr2, hL1⟩ := bind_some hL1
        refine WL_call Try.call93 rfl rfl (c_S_DecodeVarint x1 x4 hr2) ?_
        rintro _ w3 ⟨hB3, v3, v4, F1, F2, rfl, hv1, hv2, hn1, hb1⟩
        obtain ⟨rfl, rfl⟩ := val_int hv1
        obtain ⟨rfl, rfl⟩ := val_int hv2
        have hC6 := hC5.grow hB3
        refine WL_move rfl rfl ?_
        refine WL_extract rfl rfl rfl ?_
        refine WL_extract rfl rfl rfl ?_
        refine WL_assign rfl rfl ?_
        refine WL_assign rfl rfl ?_
        refine WL_nil ?_
        refine W_seq ?_
        refine W_seq_reg ?_
        refine WL_move rfl rfl ?_
        refine WL_eql rfl rfl rfl ?_
        refine WL_nil ?_
        refine W_cond rfl (fun hc2 => ?_) (fun hc2 => ?_)
        · replace hL1 := ite_t hL1 hc2
          refine W_seq ?_
          obtain ⟨r2, hr3, hL1⟩ := bind_some hL1
          refine W_cut (fun l w => ∃ x5 : Bool, x5 = r2 ∧ l = [(0, (sv x1)), (5, v1), (26, (.bool x5))] ∧ Below w3.heap.size w3 w ∧ Ctx [] w0 w [Item.own v1 (x2 : (List Str))]) ?_ ?_
          · refine W_reg ?_
            refine WL_move rfl rfl ?_
            refine WL_len_str Try.underlying9 rfl rfl ?_
            refine WL_lss rfl rfl rfl ?_
            refine WL_move rfl rfl ?_
            refine WL_fork (fun hc3 => ?_) (fun hc3 => ?_)
            · replace hr3 := ite_t hr3 hc3
              refine WL_guard rfl rfl ?_
              refine WL_move rfl rfl ?_
              obtain ⟨x6, hr4, hr3⟩ := bind_some hr3
              refine WL_guard rfl rfl ?_
              refine WL_call Try.call94 rfl rfl (c_S_l26Open x1 x6 hr4) ?_
              intro _ w5 hv3
              obtain ⟨rfl, hB5⟩ := res_bool hv3
              have hC8 := hC6.grow hB5
              refine WL_pick_t rfl rfl rfl ?_
              refine WL_nil ?_
              have hq1 := Option.some.inj hr3
              subst hq1
              refine nrm_sub (l' := [(0, (sv x1)), (5, v1), (26, (.bool x6))]) ⟨rfl, rfl, rfl, trivial⟩ ?_
              exact ⟨x6, rfl, rfl, (Keep.of hB5).below, hC8⟩
            · replace hr3 := ite_f hr3 hc3
              refine WL_guard_skip rfl rfl (by simp) rfl ?_
              refine WL_guard_skip rfl rfl (by simp) rfl ?_
              refine WL_pick_f rfl rfl rfl ?_
              refine WL_nil ?_
              have hq2 := Option.some.inj hr3
              subst hq2
              refine nrm_sub (l' := [(0, (sv x1)), (5, v1), (26, (.bool false))]) ⟨rfl, rfl, rfl, trivial⟩ ?_
              exact ⟨false, rfl, rfl, (Below.refl _ _), hC6⟩
          · rintro _ w4 ⟨x5, rfl, rfl, hB4, hC7⟩
            try dsimp only at hL1
            refine W_cond rfl (fun hc4 => ?_) (fun hc4 => ?_)
            · replace hL1 := ite_t hL1 hc4
              refine W_seq_reg ?_
              refine WL_move rfl rfl ?_
              refine WL_move rfl rfl ?_
              refine WL_assign rfl rfl ?_
              refine WL_assign rfl rfl ?_
              refine WL_assign rfl rfl ?_
              refine WL_nil ?_
              refine W_ret ?_
              refine nrm_ret ?_
              refine nrm_ret ?_
              refine blk_ret ?_
              refine nrm_ret ?_
              refine blk_ret ?_
              refine nrm_ret ?_
              refine nrm_ret ?_
              have hq3 := Option.some.inj hL1
              subst hq3
              dsimp only at hF
              have hq4 := Option.some.inj hF
              subst hq4
              refine fn_ret3 rfl rfl rfl rfl ?_
              have hC9 := hC7.triv (bool_val (true))
              have hC10 := hC9.triv (str_val (x1))
              have hC11 : Ctx [] w0 _ [Item.own v1 (x2 : (List Str)), Item.own (sv x1) (x1 : Str), Item.own (.bool true) (true : Bool)] := hC10.front 2 rfl
              exact ⟨_, rfl, res3_of hC11⟩
            · replace hL1 := ite_f hL1 hc4
              refine W_skip ?_
              refine nrm_normal ?_
              refine W_seq_reg ?_
              refine WL_move rfl rfl ?_
              refine WL_move rfl rfl ?_
              refine WL_assign rfl rfl ?_
              refine WL_assign rfl rfl ?_
              refine WL_assign rfl rfl ?_
              refine WL_nil ?_
              refine W_ret ?_
              refine nrm_ret ?_
              refine blk_ret ?_
              refine nrm_ret ?_
              refine blk_ret ?_
              refine nrm_ret ?_
              refine nrm_ret ?_
              have hq5 := Option.some.inj hL1
              subst hq5
              dsimp only at hF
              have hq6 := Option.some.inj hF
              subst hq6
              refine fn_ret3 rfl rfl rfl rfl ?_
              have hC12 := hC7.triv (bool_val (false))
              have hC13 := hC12.triv (str_val (x1))
              have hC14 : Ctx [] w0 _ [Item.own v1 (x2 : (List Str)), Item.own (sv x1) (x1 : Str), Item.own (.bool false) (false : Bool)] := hC13.front 2 rfl
              exact ⟨_, rfl, res3_of hC14⟩
        · replace hL1 := ite_f hL1 hc2
          refine W_skip ?_
          refine nrm_normal ?_
          refine W_seq ?_
          refine W_seq_reg ?_
          refine WL_move rfl rfl ?_
          refine WL_gtr rfl rfl rfl ?_
          refine WL_nil ?_
          refine W_cond rfl (fun hc5 => ?_) (fun hc5 => ?_)
          · replace hL1 := ite_t hL1 hc5
            refine W_seq_reg ?_
            refine WL_move rfl rfl ?_
            refine WL_move rfl rfl ?_
            refine WL_assign rfl rfl ?_
            refine WL_assign rfl rfl ?_
            refine WL_assign rfl rfl ?_
            refine WL_nil ?_
            refine W_ret ?_
            refine nrm_ret ?_
            refine blk_ret ?_
            refine nrm_ret ?_
            refine blk_ret ?_
            refine nrm_ret ?_
            refine nrm_ret ?_
            have hq7 := Option.some.inj hL1
            subst hq7
            dsimp only at hF
            have hq8 := Option.some.inj hF
            subst hq8
            refine fn_ret3 rfl rfl rfl rfl ?_
            have hC15 := hC6.triv (bool_val (false))
            have hC16 := hC15.triv (str_val (x1))
            have hC17 : Ctx [] w0 _ [Item.own v1 (x2 : (List Str)), Item.own (sv x1) (x1 : Str), Item.own (.bool false) (false : Bool)] := hC16.front 2 rfl
            exact ⟨_, rfl, res3_of hC17⟩
          · replace hL1 := ite_f hL1 hc5
            refine W_skip ?_
            refine nrm_normal ?_
            refine W_seq ?_
            refine W_seq_reg ?_
            refine WL_move rfl rfl ?_
            refine WL_len_str Try.underlying9 rfl rfl ?_
            refine WL_move rfl rfl ?_
            refine WL_move rfl rfl ?_
            refine WL_add rfl rfl rfl ?_
            refine WL_add rfl rfl rfl ?_
            refine WL_lss rfl rfl rfl ?_
            refine WL_nil ?_
            refine W_cond rfl (fun hc6 => ?_) (fun hc6 => ?_)
            · replace hL1 := ite_t hL1 hc6
              refine W_seq_reg ?_
              refine WL_move rfl rfl ?_
              refine WL_move rfl rfl ?_
              refine WL_assign rfl rfl ?_
              refine WL_assign rfl rfl ?_
              refine WL_assign rfl rfl ?_
              refine WL_nil ?_
              refine W_ret ?_
              refine nrm_ret ?_
              refine blk_ret ?_
              refine nrm_ret ?_
              refine blk_ret ?_
              refine nrm_ret ?_
              refine nrm_ret ?_
              have hq9 := Option.some.inj hL1
              subst hq9
              dsimp only at hF
              have hq10 := Option.some.inj hF
              subst hq10
              refine fn_ret3 rfl rfl rfl rfl ?_
              have hC18 := hC6.triv (bool_val (true))
              have hC19 := hC18.triv (str_val (x1))
              have hC20 : Ctx [] w0 _ [Item.own v1 (x2 : (List Str)), Item.own (sv x1) (x1 : Str), Item.own (.bool true) (true : Bool)] := hC19.front 2 rfl
              exact ⟨_, rfl, res3_of hC20⟩
            · replace hL1 := ite_f hL1 hc6
              refine W_skip ?_
              refine nrm_normal ?_
              refine W_seq_reg ?_
              refine WL_move rfl rfl ?_
              refine WL_move rfl rfl ?_
              refine WL_move rfl rfl ?_
              refine WL_move rfl rfl ?_
              refine WL_add rfl rfl rfl ?_
              obtain ⟨x7, hx1, hL1⟩ := bind_some hL1
              refine WL_slice_str_lh Try.underlying9 hx1 rfl rfl rfl rfl ?_
              refine WL_assign rfl rfl ?_
              refine WL_nil ?_
              refine W_seq ?_
              refine W_seq ?_
              refine W_drawn 13 rfl hmix (fun w6 hB6 => ?_)
              have hC21 := hC6.grow hB6
              refine WA_take 0 rfl (by kernel_rfl) (by kernel_rfl) (by kernel_rfl) rfl (fl_move rfl) ?_
              refine WL_move rfl rfl ?_
              refine WL_nil ?_
              refine WA_take 1 rfl (by kernel_rfl) (by kernel_rfl) (by kernel_rfl) rfl (fl_move rfl) ?_
              refine WL_move rfl rfl ?_
              refine WL_nil ?_
              refine WA_take 2 rfl (by kernel_rfl) (by kernel_rfl) (by kernel_rfl) rfl (fl_move rfl) ?_
              refine WL_move rfl rfl ?_
              refine WL_nil ?_
              refine WA_take 3 rfl (by kernel_rfl) (by kernel_rfl) (by kernel_rfl) rfl (fl_move rfl) ?_
              refine WL_move rfl rfl ?_
              refine WL_nil ?_
              refine WA_take 4 rfl (by kernel_rfl) (by kernel_rfl) (by kernel_rfl) rfl (fl_add rfl rfl) ?_
              refine WL_add rfl rfl rfl ?_
              refine WL_nil ?_
              refine WA_take 5 rfl (by kernel_rfl) (by kernel_rfl) (by kernel_rfl) rfl (fl_add rfl rfl) ?_
              refine WL_add rfl rfl rfl ?_
              refine WL_nil ?_
              obtain ⟨x8, hx2, hL1⟩ := bind_some hL1
              refine WA_take 6 rfl (by kernel_rfl) (by kernel_rfl) (by kernel_rfl) rfl (fl_slice_str_lh Try.underlying9 hx2 rfl rfl rfl) ?_
              refine WL_slice_str_lh Try.underlying9 hx2 rfl rfl rfl rfl ?_
              refine WL_nil ?_
              refine WA_take 7 rfl (by kernel_rfl) (by kernel_rfl) (by kernel_rfl) rfl (fl_move rfl) ?_
              refine WL_move rfl rfl ?_
              refine WL_nil ?_
              refine WA_take 8 rfl (by kernel_rfl) (by kernel_rfl) (by kernel_rfl) rfl (fl_move rfl) ?_
              refine WL_move rfl rfl ?_
              refine WL_nil ?_
              obtain ⟨x9, hr5, hL1⟩ := bind_some hL1
              refine WA_one 9 (by kernel_rfl) rfl ?_
              refine WL_call Try.call15 rfl rfl (c_S_CheckByte x7 x9 hr5) ?_
              intro _ w7 hv4
              obtain ⟨rfl, hB7⟩ := res_int hv4
              have hC22 := hC21.grow hB7
              refine WL_nil ?_
              obtain ⟨x10, hr6, hL1⟩ := bind_some hL1
              refine WA_one 10 (by kernel_rfl) rfl ?_
              refine WL_call Try.call76 rfl rfl (c_S_EncodeFixed x9 1 x10 hr6) ?_
              intro _ w8 hv5
              obtain ⟨rfl, hB8⟩ := res_str hv5
              have hC23 := hC22.grow hB8
              refine WL_nil ?_
              obtain ⟨x11, hx3, hL1⟩ := bind_some hL1
              refine WA_take 11 rfl (by kernel_rfl) (by kernel_rfl) (by kernel_rfl) rfl (fl_str_add hx3 rfl rfl) ?_
              refine WL_str_add hx3 rfl rfl rfl ?_
              refine WL_nil ?_
              refine WA_take 12 rfl (by kernel_rfl) (by kernel_rfl) (by kernel_rfl) rfl (fl_str_neq rfl rfl) ?_
              refine WL_str_neq rfl rfl rfl ?_
              refine WL_nil ?_
              refine WA_done (by kernel_rfl) ?_
              refine nrm_normal ?_
              refine W_cond rfl (fun hc7 => ?_) (fun hc7 => ?_)
              · replace hL1 := ite_t hL1 hc7
                refine W_seq_reg ?_
                refine WL_move rfl rfl ?_
                refine WL_move rfl rfl ?_
                refine WL_assign rfl rfl ?_
                refine WL_assign rfl rfl ?_
                refine WL_assign rfl rfl ?_
                refine WL_nil ?_
                refine W_ret ?_
                refine nrm_ret ?_
                refine blk_ret ?_
                refine nrm_ret ?_
                refine blk_ret ?_
                refine nrm_ret ?_
                refine nrm_ret ?_
                have hq11 := Option.some.inj hL1
                subst hq11
                dsimp only at hF
                have hq12 := Option.some.inj hF
                subst hq12
                refine fn_ret3 rfl rfl rfl rfl ?_
                have hC24 := hC23.triv (bool_val (false))
                have hC25 := hC24.triv (str_val (x1))
                have hC26 : Ctx [] w0 _ [Item.own v1 (x2 : (List Str)), Item.own (sv x1) (x1 : Str), Item.own (.bool false) (false : Bool)] := hC25.front 2 rfl
                exact ⟨_, rfl, res3_of hC26⟩
              · replace hL1 := ite_f hL1 hc7
                refine W_skip ?_
                refine nrm_normal ?_
                refine W_seq_reg ?_
                refine WL_move rfl rfl ?_
                refine WL_move rfl rfl ?_
                refine WL_buildSlice (vs := [(sv x7)]) hC23 Try.underlying58 ty9 rfl rfl rfl rfl (by intro v hv; simp only [List.mem_cons, List.not_mem_nil, or_false] at hv; rcases hv with rfl <;> rfl) rfl rfl (fun b2 w9 hC27 hB9 => ?_)
                have hC28 := hC27.row0 (α := Str)
                have hC29 := hC28.triv (str_val (x7))
                have hC30 := hC29.row1
                have hC31 := hC30.front 1 rfl
                dsimp only [List.eraseIdx, List.cons_append, List.nil_append, List.append_nil] at hC31
                have hC32 : Ctx [] w0 w9 (Item.own (.slice (some ⟨b2, 0, none⟩) 1 1) ([x7] : List Str) :: [Item.own v1 (x2 : (List Str))]) := hC31.rowOwn (by simp [maxLen])
                obtain ⟨x12, hx4, hL1⟩ := bind_some hL1
                refine WL_append_flat (α := Str) hC32 1 rfl (hC32.ro 0 rfl) (Keep.refl _ _) Try.underlying58 ty9 rfl hx4 rfl rfl rfl (fun v5 w10 hC33 => ?_)
                try dsimp only [List.set] at hC33
                refine WL_assign rfl rfl ?_
                refine WL_nil ?_
                refine W_reg ?_
                refine WL_move rfl rfl ?_
                refine WL_move rfl rfl ?_
                refine WL_move rfl rfl ?_
                refine WL_add rfl rfl rfl ?_
                refine WL_add rfl rfl rfl ?_
                obtain ⟨x13, hx5, hL1⟩ := bind_some hL1
                refine WL_slice_str_l Try.underlying9 hx5 rfl rfl rfl ?_
                refine WL_assign rfl rfl ?_
                refine WL_nil ?_
                refine blk_normal ?_
                have hC34 : Ctx [] w0 _ [Item.own v5 (x12 : (List Str)), Item.own (.slice (some ⟨b2, 0, none⟩) 1 1) ([x7] : (List Str))] := hC33.front 1 rfl
                have hC35 : Ctx [] w0 _ [Item.own v5 (x12 : (List Str))] := hC34.headN 1
                refine nrm_sub (l' := [(0, (sv x13)), (5, v5)]) ⟨rfl, rfl, trivial⟩ ?_
                exact ⟨k1, Nat.lt_succ_self _, x13, v5, x12, rfl, hC35, hL1⟩
      · replace hL1 := ite_f hL1 hc1
        refine W_exit ?_
        refine nrm_exit ?_
        refine nrm_exit ?_
        refine blk_exit ?_
        have hq13 := Option.some.inj hL1
        subst hq13
        refine nrm_sub (l' := [(5, v1)]) ⟨rfl, trivial⟩ ?_
        exact ⟨v1, x2, rfl, rfl, hC5⟩
  · rintro l3 _ w11 hs3 ⟨v2, x3, rfl, rfl, hC36⟩
    try dsimp only at hF
    refine nrm_sub' hs3 ?_
    clear hs3
    refine W_seq_reg ?_
    refine WL_move rfl rfl ?_
    refine WL_assign rfl rfl ?_
    refine WL_assign rfl rfl ?_
    refine WL_assign rfl rfl ?_
    refine WL_nil ?_
    refine W_ret ?_
    have hq14 := Option.some.inj hF
    subst hq14
    refine fn_ret3 rfl rfl rfl rfl ?_
    have hC37 := hC36.triv (bool_val (true))
    have hC38 := hC37.triv (str_val ((str [])))
    have hC39 : Ctx [] w0 _ [Item.own v2 (x3 : (List Str)), Item.own (sv (str [])) ((str []) : Str), Item.own (.bool true) (true : Bool)] := hC38.front 2 rfl
    exact ⟨_, rfl, res3_of hC39⟩

theorem c_M_CheckByte {w0 : World} (a1 : Str) (rr : Int) (hF : M.CheckByte a1 = some rr) :
    Calls Try.prog 16 [(sv a1)].toArray w0 fun e w' => ∃ v, e = .returned v ∧ Res w0 rr v w' := by
  refine calls_of_W Try.func16 rfl rfl ?_
  have hC0 := Ctx.start w0
  unfold M.CheckByte at hF
  refine W_seq_reg ?_
  refine WL_assign rfl rfl ?_
  refine WL_nil ?_
  refine W_seq_reg ?_
  refine WL_assign rfl rfl ?_
  refine WL_nil ?_
  refine W_seq ?_
  refine W_seq_reg ?_
  refine WL_move rfl rfl ?_
  refine WL_len_str Try.underlying9 rfl rfl ?_
  refine WL_move rfl rfl ?_
  refine WL_nil ?_
  obtain ⟨r1, hr1, hF⟩ := bind_some hF
  refine W_norm (fun l w => ∃ x3 : Int, x3 = r1 ∧ l = [(3, (.int .i64 x3))] ∧ Below w0.heap.size w0 w ∧ Ctx [] w0 w []) ?_ ?_
  · refine W_block ?_
    refine W.sub (l' := [(0, (sv a1)), (3, (.int .i64 7)), (6, (.int .i64 (List.length a1 : Int))), (7, (.int .i64 0))]) ?_ ⟨rfl, rfl, rfl, rfl, trivial⟩
    refine W_loop (fun k l w => ∃ x1 : Int, ∃ x2 : Int, l = [(0, (sv a1)), (3, (.int .i64 x1)), (6, (.int .i64 (List.length a1 : Int))), (7, (.int .i64 x2))] ∧ Below w0.heap.size w0 w ∧ Ctx [] w0 w [] ∧ M.CheckByte_l1 a1 k x1 x2 = some r1) FUEL ⟨7, 0, rfl, (Below.refl _ _), hC0, hr1⟩ ?_
    clear hr1
    rintro k1 _ w1 ⟨x1, x2, rfl, hB1, hC1, hL1⟩
    cases k1 with
    | zero => rw [M.CheckByte_l1] at hL1; cases hL1
    | succ k1 =>
      rw [M.CheckByte_l1] at hL1
      refine W_seq_reg ?_
      refine WL_lss rfl rfl rfl ?_
      refine WL_nil ?_
      refine W_seq ?_
      refine W_cond rfl (fun hc1 => ?_) (fun hc1 => ?_)
      · replace hL1 := ite_t hL1 hc1
        refine W_skip ?_
        refine nrm_normal ?_
        refine W_seq ?_
        refine W_block ?_
        refine W_seq_reg ?_
        refine WL_move rfl rfl ?_
        refine WL_assign rfl rfl ?_
        refine WL_nil ?_
        refine W_reg ?_
        refine WL_move rfl rfl ?_
        refine WL_mul rfl rfl rfl ?_
        refine WL_move rfl rfl ?_
        refine WL_move rfl rfl ?_
        obtain ⟨x4, hx1, hL1⟩ := bind_some hL1
        refine WL_index_str Try.underlying9 hx1 rfl rfl rfl ?_
        refine WL_conv_i64 Try.underlying5 Try.underlying3 rfl rfl ?_
        refine WL_add rfl rfl rfl ?_
        refine WL_rem (by decide) rfl rfl rfl ?_
        refine WL_assign rfl rfl ?_
        refine WL_nil ?_
        refine blk_normal ?_
        refine nrm_normal ?_
        refine W_reg ?_
        refine WL_add rfl rfl rfl ?_
        refine WL_move rfl rfl ?_
        refine WL_nil ?_
        refine nrm_sub (l' := [(0, (sv a1)), (3, (.int .i64 ((w64 ((w64 (31 * x1)) + (w64 (UInt8.toNat x4 : Int)))).tmod 251))), (6, (.int .i64 (List.length a1 : Int))), (7, (.int .i64 (w64 (x2 + 1))))]) ⟨rfl, rfl, rfl, rfl, trivial⟩ ?_
        exact ⟨k1, Nat.lt_succ_self _, (w64 ((w64 (31 * x1)) + (w64 (UInt8.toNat x4 : Int)))).tmod 251, w64 (x2 + 1), rfl, (Keep.of hB1).below, hC1, hL1⟩
      · replace hL1 := ite_f hL1 hc1
        refine W_exit ?_
        refine nrm_exit ?_
        refine nrm_exit ?_
        refine blk_exit ?_
        have hq1 := Option.some.inj hL1
        subst hq1
        refine nrm_sub (l' := [(3, (.int .i64 x1))]) ⟨rfl, trivial⟩ ?_
        exact ⟨x1, rfl, rfl, (Keep.of hB1).below, hC1⟩
  · rintro l2 _ w2 hs2 ⟨x3, rfl, rfl, hB2, hC2⟩
    try dsimp only at hF
    refine nrm_sub' hs2 ?_
    clear hs2
    refine W_seq_reg ?_
    refine WL_move rfl rfl ?_
    refine WL_assign rfl rfl ?_
    refine WL_nil ?_
    refine W_ret ?_
    have hq2 := Option.some.inj hF
    subst hq2
    refine fn_ret1 rfl rfl ?_
    exact ⟨_, rfl, int_res hC2 _⟩

theorem c_M_DecodeVarint {w0 : World} (a1 : Str) (rr : (Int × Int)) (hF : M.DecodeVarint a1 = some rr) :
    Calls Try.prog 95 [(sv a1)].toArray w0 fun e w' => ∃ v, e = .returned v ∧ Res2 w0 rr.1 rr.2 v w' := by
  refine calls_of_W Try.func95 rfl rfl ?_
  have hC0 := Ctx.start w0
  unfold M.DecodeVarint at hF
  refine W_seq_reg ?_
  refine WL_assign rfl rfl ?_
  refine WL_assign rfl rfl ?_
  refine WL_nil ?_
  refine W_seq_reg ?_
  refine WL_assign rfl rfl ?_
  refine WL_nil ?_
  refine W_seq ?_
  refine W_seq_reg ?_
  refine WL_move rfl rfl ?_
  refine WL_len_str Try.underlying9 rfl rfl ?_
  refine WL_min rfl rfl rfl ?_
  refine WL_move rfl rfl ?_
  refine WL_nil ?_
  obtain ⟨r1, hr1, hF⟩ := bind_some hF
  refine W_norm (fun l w => .inl () = r1 ∧ l = [] ∧ Below w0.heap.size w0 w ∧ Ctx [] w0 w []) ?_ ?_
  · refine W_block ?_
    refine W.sub (l' := [(0, (sv a1)), (4, (.int .i64 0)), (8, (.int .i64 (if (List.length a1 : Int) < 7 then (List.length a1 : Int) else 7))), (9, (.int .i64 0))]) ?_ ⟨rfl, rfl, rfl, rfl, trivial⟩
    refine W_loop (fun k l w => ∃ x1 : Int, ∃ x2 : Int, l = [(0, (sv a1)), (4, (.int .i64 x1)), (8, (.int .i64 (if (List.length a1 : Int) < 7 then (List.length a1 : Int) else 7))), (9, (.int .i64 x2))] ∧ Below w0.heap.size w0 w ∧ Ctx [] w0 w [] ∧ M.DecodeVarint_l1 a1 k x1 x2 = some r1) FUEL ⟨0, 0, rfl, (Below.refl _ _), hC0, hr1⟩ ?_
    clear hr1
    rintro k1 _ w1 ⟨x1, x2, rfl, hB1, hC1, hL1⟩
    cases k1 with
    | zero => rw [M.DecodeVarint_l1] at hL1; cases hL1
    | succ k1 =>
      rw [M.DecodeVarint_l1] at hL1
      refine W_seq_reg ?_
      refine WL_lss rfl rfl rfl ?_
      refine WL_nil ?_
      refine W_seq ?_
      refine W_cond rfl (fun hc1 => ?_) (fun hc1 => ?_)
      · replace hL1 := ite_t hL1 hc1
        refine W_skip ?_
        refine nrm_normal ?_
        refine W_seq ?_
        refine W_block ?_
        refine W_seq_reg ?_
        refine WL_move rfl rfl ?_
        refine WL_assign rfl rfl ?_
        refine WL_nil ?_
        refine W_seq_reg ?_
        refine WL_move rfl rfl ?_
        refine WL_move rfl rfl ?_
        refine WL_move rfl rfl ?_
        obtain ⟨x3, hx1, hL1⟩ := bind_some hL1
        refine WL_index_str Try.underlying9 hx1 rfl rfl rfl ?_
        refine WL_band8 rfl rfl rfl ?_
        refine WL_conv_i64 Try.underlying5 Try.underlying3 rfl rfl ?_
        refine WL_move rfl rfl ?_
        refine WL_mul rfl rfl rfl ?_
        obtain ⟨_, hx2, hL1⟩ := bind_some hL1
        refine WL_shl (nn_some hx2) rfl rfl rfl ?_
        refine WL_bor rfl rfl rfl ?_
        refine WL_assign rfl rfl ?_
        refine WL_nil ?_
        refine W_seq ?_
        refine W_seq_reg ?_
        refine WL_move rfl rfl ?_
        refine WL_move rfl rfl ?_
        obtain ⟨x4, hx3, hL1⟩ := bind_some hL1
        refine WL_index_str Try.underlying9 hx3 rfl rfl rfl ?_
        refine WL_geq rfl rfl rfl ?_
        refine WL_nil ?_
        refine W_cond rfl (fun hc2 => ?_) (fun hc2 => ?_)
        · replace hL1 := ite_t hL1 hc2
          refine W_exit ?_
          refine nrm_exit ?_
          refine blk_exit ?_
          refine nrm_normal ?_
          refine W_reg ?_
          refine WL_add rfl rfl rfl ?_
          refine WL_move rfl rfl ?_
          refine WL_nil ?_
          refine nrm_sub (l' := [(0, (sv a1)), (4, (.int .i64 (bor x1 (shl (w64 (band8 (UInt8.toNat x3 : Int) 127)) (w64 (7 * x2)))))), (8, (.int .i64 (if (List.length a1 : Int) < 7 then (List.length a1 : Int) else 7))), (9, (.int .i64 (w64 (x2 + 1))))]) ⟨rfl, rfl, rfl, rfl, trivial⟩ ?_
          exact ⟨k1, Nat.lt_succ_self _, bor x1 (shl (w64 (band8 (UInt8.toNat x3 : Int) 127)) (w64 (7 * x2))), w64 (x2 + 1), rfl, (Keep.of hB1).below, hC1, hL1⟩
        · replace hL1 := ite_f hL1 hc2
          refine W_skip ?_
          refine nrm_normal ?_
          refine W_seq ?_
          obtain ⟨r2, hr2, hL1⟩ := bind_some hL1
          refine W_cut (fun l w => ∃ x5 : Bool, x5 = r2 ∧ l = [(4, (.int .i64 (bor x1 (shl (w64 (band8 (UInt8.toNat x3 : Int) 127)) (w64 (7 * x2)))))), (5, (.int .i64 x2)), (33, (.bool x5))] ∧ Below w1.heap.size w1 w ∧ Ctx [] w0 w []) ?_ ?_
          · refine W_reg ?_
            refine WL_move rfl rfl ?_
            refine WL_gtr rfl rfl rfl ?_
            refine WL_move rfl rfl ?_
            refine WL_fork (fun hc3 => ?_) (fun hc3 => ?_)
            · replace hr2 := ite_t hr2 hc3
              refine WL_guard rfl rfl ?_
              refine WL_move rfl rfl ?_
              refine WL_guard rfl rfl ?_
              refine WL_move rfl rfl ?_
              obtain ⟨x6, hx4, hr2⟩ := bind_some hr2
              refine WL_guard rfl rfl ?_
              refine WL_index_str Try.underlying9 hx4 rfl rfl rfl ?_
              refine WL_guard rfl rfl ?_
              refine WL_eql rfl rfl rfl ?_
              refine WL_pick_t rfl rfl rfl ?_
              refine WL_nil ?_
              have hq1 := Option.some.inj hr2
              subst hq1
              refine nrm_sub (l' := [(4, (.int .i64 (bor x1 (shl (w64 (band8 (UInt8.toNat x3 : Int) 127)) (w64 (7 * x2)))))), (5, (.int .i64 x2)), (33, (.bool (decide ((UInt8.toNat x6 : Int) = 0))))]) ⟨rfl, rfl, rfl, trivial⟩ ?_
              exact ⟨(decide ((UInt8.toNat x6 : Int) = 0)), rfl, rfl, (Below.refl _ _), hC1⟩
            · replace hr2 := ite_f hr2 hc3
              refine WL_guard_skip rfl rfl (by simp) rfl ?_
              refine WL_guard_skip rfl rfl (by simp) rfl ?_
              refine WL_guard_skip rfl rfl (by simp) rfl ?_
              refine WL_guard_skip rfl rfl (by simp) rfl ?_
              refine WL_pick_f rfl rfl rfl ?_
              refine WL_nil ?_
              have hq2 := Option.some.inj hr2
              subst hq2
              refine nrm_sub (l' := [(4, (.int .i64 (bor x1 (shl (w64 (band8 (UInt8.toNat x3 : Int) 127)) (w64 (7 * x2)))))), (5, (.int .i64 x2)), (33, (.bool false))]) ⟨rfl, rfl, rfl, trivial⟩ ?_
              exact ⟨false, rfl, rfl, (Below.refl _ _), hC1⟩
          · rintro _ w2 ⟨x5, rfl, rfl, hB2, hC2⟩
            try dsimp only at hL1
            refine W_cond rfl (fun hc4 => ?_) (fun hc4 => ?_)
            · replace hL1 := ite_t hL1 hc4
              refine W_seq_reg ?_
              refine WL_assign rfl rfl ?_
              refine WL_assign rfl rfl ?_
              refine WL_nil ?_
              refine W_ret ?_
              refine nrm_ret ?_
              refine blk_ret ?_
              refine nrm_ret ?_
              refine nrm_ret ?_
              refine blk_ret ?_
              refine nrm_ret ?_
              refine nrm_ret ?_
              have hq3 := Option.some.inj hL1
              subst hq3
              dsimp only at hF
              have hq4 := Option.some.inj hF
              subst hq4
              refine fn_ret2 rfl rfl rfl ?_
              have hC3 := hC2.triv (int_val (0))
              have hC4 := hC3.triv (int_val (0))
              exact ⟨_, rfl, res2_of hC4⟩
            · replace hL1 := ite_f hL1 hc4
              refine W_skip ?_
              refine nrm_normal ?_
              refine W_seq_reg ?_
              refine WL_move rfl rfl ?_
              refine WL_move rfl rfl ?_
              refine WL_add rfl rfl rfl ?_
              refine WL_assign rfl rfl ?_
              refine WL_assign rfl rfl ?_
              refine WL_nil ?_
              refine W_ret ?_
              refine blk_ret ?_
              refine nrm_ret ?_
              refine nrm_ret ?_
              refine blk_ret ?_
              refine nrm_ret ?_
              refine nrm_ret ?_
              have hq5 := Option.some.inj hL1
              subst hq5
              dsimp only at hF
              have hq6 := Option.some.inj hF
              subst hq6
              refine fn_ret2 rfl rfl rfl ?_
              have hC5 := hC2.triv (int_val (w64 (x2 + 1)))
              have hC6 := hC5.triv (int_val (bor x1 (shl (w64 (band8 (UInt8.toNat x3 : Int) 127)) (w64 (7 * x2)))))
              exact ⟨_, rfl, res2_of hC6⟩
      · replace hL1 := ite_f hL1 hc1
        refine W_exit ?_
        refine nrm_exit ?_
        refine nrm_exit ?_
        refine blk_exit ?_
        have hq7 := Option.some.inj hL1
        subst hq7
        refine nrm_sub (l' := []) trivial ?_
        exact ⟨rfl, rfl, (Keep.of hB1).below, hC1⟩
  · rintro l3 _ w3 hs3 ⟨rfl, rfl, hB3, hC7⟩
    try dsimp only at hF
    refine nrm_sub' hs3 ?_
    clear hs3
    refine W_seq_reg ?_
    refine WL_assign rfl rfl ?_
    refine WL_assign rfl rfl ?_
    refine WL_nil ?_
    refine W_ret ?_
    have hq8 := Option.some.inj hF
    subst hq8
    refine fn_ret2 rfl rfl rfl ?_
    have hC8 := hC7.triv (int_val (0))
    have hC9 := hC8.triv (int_val (0))
    exact ⟨_, rfl, res2_of hC9⟩

theorem c_M_isOpenLength {w0 : World} (a1 : Str) (rr : Bool) (hF : M.isOpenLength a1 = some rr) :
    Calls Try.prog 96 [(sv a1)].toArray w0 fun e w' => ∃ v, e = .returned v ∧ Res w0 rr v w' := by
  refine calls_of_W Try.func96 rfl rfl ?_
  have hC0 := Ctx.start w0
  unfold M.isOpenLength at hF
  refine W_seq_reg ?_
  refine WL_assign rfl rfl ?_
  refine WL_nil ?_
  refine W_seq ?_
  refine W_seq_reg ?_
  refine WL_move rfl rfl ?_
  refine WL_len_str Try.underlying9 rfl rfl ?_
  refine WL_move rfl rfl ?_
  refine WL_nil ?_
  obtain ⟨r1, hr1, hF⟩ := bind_some hF
  refine W_norm (fun l w => .inl () = r1 ∧ l = [(0, (sv a1))] ∧ Below w0.heap.size w0 w ∧ Ctx [] w0 w []) ?_ ?_
  · refine W_block ?_
    refine W.sub (l' := [(0, (sv a1)), (5, (.int .i64 (List.length a1 : Int))), (6, (.int .i64 0))]) ?_ ⟨rfl, rfl, rfl, trivial⟩
    refine W_loop (fun k l w => ∃ x1 : Int, l = [(0, (sv a1)), (5, (.int .i64 (List.length a1 : Int))), (6, (.int .i64 x1))] ∧ Below w0.heap.size w0 w ∧ Ctx [] w0 w [] ∧ M.isOpenLength_l1 a1 k x1 = some r1) FUEL ⟨0, rfl, (Below.refl _ _), hC0, hr1⟩ ?_
    clear hr1
    rintro k1 _ w1 ⟨x1, rfl, hB1, hC1, hL1⟩
    cases k1 with
    | zero => rw [M.isOpenLength_l1] at hL1; cases hL1
    | succ k1 =>
      rw [M.isOpenLength_l1] at hL1
      refine W_seq_reg ?_
      refine WL_lss rfl rfl rfl ?_
      refine WL_nil ?_
      refine W_seq ?_
      refine W_cond rfl (fun hc1 => ?_) (fun hc1 => ?_)
      · replace hL1 := ite_t hL1 hc1
        refine W_skip ?_
        refine nrm_normal ?_
        refine W_seq ?_
        refine W_block ?_
        refine W_seq_reg ?_
        refine WL_move rfl rfl ?_
        refine WL_assign rfl rfl ?_
        refine WL_nil ?_
        refine W_seq_reg ?_
        refine WL_move rfl rfl ?_
        refine WL_move rfl rfl ?_
        obtain ⟨x2, hx1, hL1⟩ := bind_some hL1
        refine WL_index_str Try.underlying9 hx1 rfl rfl rfl ?_
        refine WL_lss rfl rfl rfl ?_
        refine WL_nil ?_
        refine W_cond rfl (fun hc2 => ?_) (fun hc2 => ?_)
        · replace hL1 := ite_t hL1 hc2
          refine W_seq_reg ?_
          refine WL_assign rfl rfl ?_
          refine WL_nil ?_
          refine W_ret ?_
          refine blk_ret ?_
          refine nrm_ret ?_
          refine nrm_ret ?_
          refine blk_ret ?_
          refine nrm_ret ?_
          refine nrm_ret ?_
          have hq1 := Option.some.inj hL1
          subst hq1
          dsimp only at hF
          have hq2 := Option.some.inj hF
          subst hq2
          refine fn_ret1 rfl rfl ?_
          exact ⟨_, rfl, bool_res hC1 _⟩
        · replace hL1 := ite_f hL1 hc2
          refine W_skip ?_
          refine blk_normal ?_
          refine nrm_normal ?_
          refine W_reg ?_
          refine WL_add rfl rfl rfl ?_
          refine WL_move rfl rfl ?_
          refine WL_nil ?_
          refine nrm_sub (l' := [(0, (sv a1)), (5, (.int .i64 (List.length a1 : Int))), (6, (.int .i64 (w64 (x1 + 1))))]) ⟨rfl, rfl, rfl, trivial⟩ ?_
          exact ⟨k1, Nat.lt_succ_self _, w64 (x1 + 1), rfl, (Keep.of hB1).below, hC1, hL1⟩
      · replace hL1 := ite_f hL1 hc1
        refine W_exit ?_
        refine nrm_exit ?_
        refine nrm_exit ?_
        refine blk_exit ?_
        have hq3 := Option.some.inj hL1
        subst hq3
        refine nrm_sub (l' := [(0, (sv a1))]) ⟨rfl, trivial⟩ ?_
        exact ⟨rfl, rfl, (Keep.of hB1).below, hC1⟩
  · rintro l2 _ w2 hs2 ⟨rfl, rfl, hB2, hC2⟩
    try dsimp only at hF
    refine nrm_sub' hs2 ?_
    clear hs2
    refine W_seq_reg ?_
    refine WL_move rfl rfl ?_
    refine WL_len_str Try.underlying9 rfl rfl ?_
    refine WL_leq rfl rfl rfl ?_
    refine WL_assign rfl rfl ?_
    refine WL_nil ?_
    refine W_ret ?_
    have hq4 := Option.some.inj hF
    subst hq4
    refine fn_ret1 rfl rfl ?_
    exact ⟨_, rfl, bool_res hC2 _⟩

theorem c_M_SplitFrames {w0 : World} (a1 : Str) (rr : ((List Str) × Str × Bool)) (hF : M.SplitFrames a1 = some rr) :
    Calls Try.prog 43 [(sv a1)].toArray w0 fun e w' => ∃ v, e = .returned v ∧ Res3 w0 rr.1 rr.2.1 rr.2.2 v w' := by
  refine calls_of_W Try.func43 rfl rfl ?_
  have hC0 := Ctx.start w0
  unfold M.SplitFrames at hF
  refine W_seq_reg ?_
  refine WL_assign rfl rfl ?_
  refine WL_assign rfl rfl ?_
  refine WL_assign rfl rfl ?_
  refine WL_nil ?_
  refine W_seq_reg ?_
  refine WL_buildSlice (vs := []) hC0 Try.underlying58 ty9 rfl rfl rfl rfl (by simp) rfl rfl (fun b1 w1 hC1 hB1 => ?_)
  have hC2 := hC1.row0 (α := Str)
  have hC3 := hC2.front 1 rfl
  dsimp only [List.eraseIdx, List.cons_append, List.nil_append, List.append_nil] at hC3
  have hC4 : Ctx [] w0 w1 (Item.own (.slice (some ⟨b1, 0, none⟩) 0 0) (([] : List Str) : List Str) :: []) := hC3.rowOwn (by simp [maxLen])
  refine WL_assign rfl rfl ?_
  refine WL_nil ?_
  refine W_seq ?_
  obtain ⟨r1, hr1, hF⟩ := bind_some hF
  refine W_norm (fun l w => ∃ x3 : Str, ∃ v2 : Value, ∃ x4 : (List Str), .inl (x3, x4) = r1 ∧ l = [(0, (sv x3)), (5, v2)] ∧ Ctx [] w0 w [Item.own v2 (x4 : (List Str))]) ?_ ?_
  · refine W_block ?_
    refine W.sub (l' := [(0, (sv a1)), (5, (.slice (some ⟨b1, 0, none⟩) 0 0))]) ?_ ⟨rfl, rfl, trivial⟩
    refine W_loop (fun k l w => ∃ x1 : Str, ∃ v1 : Value, ∃ x2 : (List Str), l = [(0, (sv x1)), (5, v1)] ∧ Ctx [] w0 w [Item.own v1 (x2 : (List Str))] ∧ M.SplitFrames_l1 k x1 x2 = some r1) FUEL ⟨a1, (.slice (some ⟨b1, 0, none⟩) 0 0), ([] : List Str), rfl, hC4, hr1⟩ ?_
    clear hr1
    rintro k1 _ w2 ⟨x1, v1, x2, rfl, hC5, hL1⟩
    cases k1 with
    | zero => rw [M.SplitFrames_l1] at hL1; cases hL1
    | succ k1 =>
      rw [M.SplitFrames_l1] at hL1
      refine W_seq ?_
      refine W_seq_reg ?_
      refine WL_move rfl rfl ?_
      refine WL_str_neq rfl rfl rfl ?_
      refine WL_nil ?_
      refine W_cond rfl (fun hc1 => ?_) (fun hc1 => ?_)
      · replace hL1 := ite_t hL1 hc1
        refine W_skip ?_
        refine nrm_normal ?_
        refine W_block ?_
        refine W_seq_reg ?_
        refine WL_move rfl rfl ?_
        obtain ⟨x5, hr2, hL1⟩ := bind_some hL1
        refine WL_call Try.call95 rfl rfl (c_M_DecodeVarint x1 x5 hr2) ?_
        rintro _ w3 ⟨hB3, v3, v4, F1, F2, rfl, hv1, hv2, hn1, hb1⟩
        obtain ⟨rfl, rfl⟩ := val_int hv1
        obtain ⟨rfl, rfl⟩ := val_int hv2
        have hC6 := hC5.grow hB3
        refine WL_move rfl rfl ?_
        refine WL_extract rfl rfl rfl ?_
        refine WL_extract rfl rfl rfl ?_
        refine WL_assign rfl rfl ?_
        refine WL_assign rfl rfl ?_
        refine WL_nil ?_
        refine W_seq ?_
        refine W_block ?_
        refine W_seq_reg ?_
        refine WL_move rfl rfl ?_
        refine WL_eql rfl rfl rfl ?_
        refine WL_assign rfl rfl ?_
        refine WL_nil ?_
        refine W_cond rfl (fun hc2 => ?_) (fun hc2 => ?_)
        · replace hL1 := ite_t hL1 hc2
          refine W_seq_reg ?_
          refine WL_move rfl rfl ?_
          refine WL_move rfl rfl ?_
          refine WL_move rfl rfl ?_
          obtain ⟨x6, hr3, hL1⟩ := bind_some hL1
          refine WL_call Try.call96 rfl rfl (c_M_isOpenLength x1 x6 hr3) ?_
          intro _ w4 hv3
          obtain ⟨rfl, hB4⟩ := res_bool hv3
          have hC7 := hC6.grow hB4
          refine WL_assign rfl rfl ?_
          refine WL_assign rfl rfl ?_
          refine WL_assign rfl rfl ?_
          refine WL_nil ?_
          refine W_ret ?_
          refine blk_ret ?_
          refine nrm_ret ?_
          refine blk_ret ?_
          refine nrm_ret ?_
          refine blk_ret ?_
          refine nrm_ret ?_
          refine nrm_ret ?_
          have hq1 := Option.some.inj hL1
          subst hq1
          dsimp only at hF
          have hq2 := Option.some.inj hF
          subst hq2
          refine fn_ret3 rfl rfl rfl rfl ?_
          have hC8 := hC7.triv (bool_val (x6))
          have hC9 := hC8.triv (str_val (x1))
          have hC10 : Ctx [] w0 _ [Item.own v1 (x2 : (List Str)), Item.own (sv x1) (x1 : Str), Item.own (.bool x6) (x6 : Bool)] := hC9.front 2 rfl
          exact ⟨_, rfl, res3_of hC10⟩
        · replace hL1 := ite_f hL1 hc2
          refine W_seq_reg ?_
          refine WL_move rfl rfl ?_
          refine WL_gtr rfl rfl rfl ?_
          refine WL_assign rfl rfl ?_
          refine WL_nil ?_
          refine W_cond rfl (fun hc3 => ?_) (fun hc3 => ?_)
          · replace hL1 := ite_t hL1 hc3
            refine W_seq_reg ?_
            refine WL_move rfl rfl ?_
            refine WL_move rfl rfl ?_
            refine WL_assign rfl rfl ?_
            refine WL_assign rfl rfl ?_
            refine WL_assign rfl rfl ?_
            refine WL_nil ?_
            refine W_ret ?_
            refine blk_ret ?_
            refine nrm_ret ?_
            refine blk_ret ?_
            refine nrm_ret ?_
            refine blk_ret ?_
            refine nrm_ret ?_
            refine nrm_ret ?_
            have hq3 := Option.some.inj hL1
            subst hq3
            dsimp only at hF
            have hq4 := Option.some.inj hF
            subst hq4
            refine fn_ret3 rfl rfl rfl rfl ?_
            have hC11 := hC6.triv (bool_val (false))
            have hC12 := hC11.triv (str_val (x1))
            have hC13 : Ctx [] w0 _ [Item.own v1 (x2 : (List Str)), Item.own (sv x1) (x1 : Str), Item.own (.bool false) (false : Bool)] := hC12.front 2 rfl
            exact ⟨_, rfl, res3_of hC13⟩
          · replace hL1 := ite_f hL1 hc3
            refine W_seq_reg ?_
            refine WL_move rfl rfl ?_
            refine WL_len_str Try.underlying9 rfl rfl ?_
            refine WL_move rfl rfl ?_
            refine WL_move rfl rfl ?_
            refine WL_add rfl rfl rfl ?_
            refine WL_add rfl rfl rfl ?_
            refine WL_lss rfl rfl rfl ?_
            refine WL_assign rfl rfl ?_
            refine WL_nil ?_
            refine W_cond rfl (fun hc4 => ?_) (fun hc4 => ?_)
            · replace hL1 := ite_t hL1 hc4
              refine W_seq_reg ?_
              refine WL_move rfl rfl ?_
              refine WL_move rfl rfl ?_
              refine WL_assign rfl rfl ?_
              refine WL_assign rfl rfl ?_
              refine WL_assign rfl rfl ?_
              refine WL_nil ?_
              refine W_ret ?_
              refine blk_ret ?_
              refine nrm_ret ?_
              refine blk_ret ?_
              refine nrm_ret ?_
              refine blk_ret ?_
              refine nrm_ret ?_
              refine nrm_ret ?_
              have hq5 := Option.some.inj hL1
              subst hq5
              dsimp only at hF
              have hq6 := Option.some.inj hF
              subst hq6
              refine fn_ret3 rfl rfl rfl rfl ?_
              have hC14 := hC6.triv (bool_val (true))
              have hC15 := hC14.triv (str_val (x1))
              have hC16 : Ctx [] w0 _ [Item.own v1 (x2 : (List Str)), Item.own (sv x1) (x1 : Str), Item.own (.bool true) (true : Bool)] := hC15.front 2 rfl
              exact ⟨_, rfl, res3_of hC16⟩
            · replace hL1 := ite_f hL1 hc4
              refine W_skip ?_
              refine blk_normal ?_
              refine nrm_normal ?_
              refine W_seq_reg ?_
              refine WL_move rfl rfl ?_
              refine WL_move rfl rfl ?_
              refine WL_move rfl rfl ?_
              refine WL_move rfl rfl ?_
              refine WL_add rfl rfl rfl ?_
              obtain ⟨x7, hx1, hL1⟩ := bind_some hL1
              refine WL_slice_str_lh Try.underlying9 hx1 rfl rfl rfl rfl ?_
              refine WL_assign rfl rfl ?_
              refine WL_nil ?_
              refine W_seq ?_
              refine W_seq ?_
              refine W_drawn 9 rfl hmix (fun w5 hB5 => ?_)
              have hC17 := hC6.grow hB5
              refine WA_take 0 rfl (by kernel_rfl) (by kernel_rfl) (by kernel_rfl) rfl (fl_move rfl) ?_
              refine WL_move rfl rfl ?_
              refine WL_nil ?_
              refine WA_take 1 rfl (by kernel_rfl) (by kernel_rfl) (by kernel_rfl) rfl (fl_move rfl) ?_
              refine WL_move rfl rfl ?_
              refine WL_nil ?_
              refine WA_take 2 rfl (by kernel_rfl) (by kernel_rfl) (by kernel_rfl) rfl (fl_move rfl) ?_
              refine WL_move rfl rfl ?_
              refine WL_nil ?_
              refine WA_take 3 rfl (by kernel_rfl) (by kernel_rfl) (by kernel_rfl) rfl (fl_add rfl rfl) ?_
              refine WL_add rfl rfl rfl ?_
              refine WL_nil ?_
              obtain ⟨x8, hx2, hL1⟩ := bind_some hL1
              refine WA_take 4 rfl (by kernel_rfl) (by kernel_rfl) (by kernel_rfl) rfl (fl_index_str Try.underlying9 hx2 rfl rfl) ?_
              refine WL_index_str Try.underlying9 hx2 rfl rfl rfl ?_
              refine WL_nil ?_
              refine WA_take 5 rfl (by kernel_rfl) (by kernel_rfl) (by kernel_rfl) rfl (fl_conv_int Try.underlying5 Try.underlying3 rfl) ?_
              refine WL_conv_i64 Try.underlying5 Try.underlying3 rfl rfl ?_
              refine WL_nil ?_
              refine WA_take 6 rfl (by kernel_rfl) (by kernel_rfl) (by kernel_rfl) rfl (fl_move rfl) ?_
              refine WL_move rfl rfl ?_
              refine WL_nil ?_
              obtain ⟨x9, hr4, hL1⟩ := bind_some hL1
              refine WA_one 7 (by kernel_rfl) rfl ?_
              refine WL_call Try.call16 rfl rfl (c_M_CheckByte x7 x9 hr4) ?_
              intro _ w6 hv4
              obtain ⟨rfl, hB6⟩ := res_int hv4
              have hC18 := hC17.grow hB6
              refine WL_nil ?_
              refine WA_take 8 rfl (by kernel_rfl) (by kernel_rfl) (by kernel_rfl) rfl (fl_neq rfl rfl) ?_
              refine WL_neq rfl rfl rfl ?_
              refine WL_nil ?_
              refine WA_done (by kernel_rfl) ?_
              refine nrm_normal ?_
              refine W_cond rfl (fun hc5 => ?_) (fun hc5 => ?_)
              · replace hL1 := ite_t hL1 hc5
                refine W_seq_reg ?_
                refine WL_move rfl rfl ?_
                refine WL_move rfl rfl ?_
                refine WL_assign rfl rfl ?_
                refine WL_assign rfl rfl ?_
                refine WL_assign rfl rfl ?_
                refine WL_nil ?_
                refine W_ret ?_
                refine nrm_ret ?_
                refine blk_ret ?_
                refine nrm_ret ?_
                refine blk_ret ?_
                refine nrm_ret ?_
                refine nrm_ret ?_
                have hq7 := Option.some.inj hL1
                subst hq7
                dsimp only at hF
                have hq8 := Option.some.inj hF
                subst hq8
                refine fn_ret3 rfl rfl rfl rfl ?_
                have hC19 := hC18.triv (bool_val (false))
                have hC20 := hC19.triv (str_val (x1))
                have hC21 : Ctx [] w0 _ [Item.own v1 (x2 : (List Str)), Item.own (sv x1) (x1 : Str), Item.own (.bool false) (false : Bool)] := hC20.front 2 rfl
                exact ⟨_, rfl, res3_of hC21⟩
              · replace hL1 := ite_f hL1 hc5
                refine W_skip ?_
                refine nrm_normal ?_
                refine W_seq_reg ?_
                refine WL_move rfl rfl ?_
                refine WL_move rfl rfl ?_
                refine WL_buildSlice (vs := [(sv x7)]) hC18 Try.underlying58 ty9 rfl rfl rfl rfl (by intro v hv; simp only [List.mem_cons, List.not_mem_nil, or_false] at hv; rcases hv with rfl <;> rfl) rfl rfl (fun b2 w7 hC22 hB7 => ?_)
                have hC23 := hC22.row0 (α := Str)
                have hC24 := hC23.triv (str_val (x7))
                have hC25 := hC24.row1
                have hC26 := hC25.front 1 rfl
                dsimp only [List.eraseIdx, List.cons_append, List.nil_append, List.append_nil] at hC26
                have hC27 : Ctx [] w0 w7 (Item.own (.slice (some ⟨b2, 0, none⟩) 1 1) ([x7] : List Str) :: [Item.own v1 (x2 : (List Str))]) := hC26.rowOwn (by simp [maxLen])
                obtain ⟨x10, hx3, hL1⟩ := bind_some hL1
                refine WL_append_flat (α := Str) hC27 1 rfl (hC27.ro 0 rfl) (Keep.refl _ _) Try.underlying58 ty9 rfl hx3 rfl rfl rfl (fun v5 w8 hC28 => ?_)
                try dsimp only [List.set] at hC28
                refine WL_assign rfl rfl ?_
                refine WL_nil ?_
                refine W_reg ?_
                refine WL_move rfl rfl ?_
                refine WL_move rfl rfl ?_
                refine WL_move rfl rfl ?_
                refine WL_add rfl rfl rfl ?_
                refine WL_add rfl rfl rfl ?_
                obtain ⟨x11, hx4, hL1⟩ := bind_some hL1
                refine WL_slice_str_l Try.underlying9 hx4 rfl rfl rfl ?_
                refine WL_assign rfl rfl ?_
                refine WL_nil ?_
                refine blk_normal ?_
                have hC29 : Ctx [] w0 _ [Item.own v5 (x10 : (List Str)), Item.own (.slice (some ⟨b2, 0, none⟩) 1 1) ([x7] : (List Str))] := hC28.front 1 rfl
                have hC30 : Ctx [] w0 _ [Item.own v5 (x10 : (List Str))] := hC29.headN 1
                refine nrm_sub (l' := [(0, (sv x11)), (5, v5)]) ⟨rfl, rfl, trivial⟩ ?_
                exact ⟨k1, Nat.lt_succ_self _, x11, v5, x10, rfl, hC30, hL1⟩
      · replace hL1 := ite_f hL1 hc1
        refine W_exit ?_
        refine nrm_exit ?_
        refine nrm_exit ?_
        refine blk_exit ?_
        have hq9 := Option.some.inj hL1
        subst hq9
        refine nrm_sub (l' := [(0, (sv x1)), (5, v1)]) ⟨rfl, rfl, trivial⟩ ?_
        exact ⟨x1, v1, x2, rfl, rfl, hC5⟩
  · rintro l2 _ w9 hs2 ⟨x3, v2, x4, rfl, rfl, hC31⟩
    try dsimp only at hF
    refine nrm_sub' hs2 ?_
    clear hs2
    refine W_seq_reg ?_
    refine WL_move rfl rfl ?_
    refine WL_move rfl rfl ?_
    refine WL_assign rfl rfl ?_
    refine WL_assign rfl rfl ?_
    refine WL_assign rfl rfl ?_
    refine WL_nil ?_
    refine W_ret ?_
    have hq10 := Option.some.inj hF
    subst hq10
    refine fn_ret3 rfl rfl rfl rfl ?_
    have hC32 := hC31.triv (bool_val (true))
    have hC33 := hC32.triv (str_val (x3))
    have hC34 : Ctx [] w0 _ [Item.own v2 (x4 : (List Str)), Item.own (sv x3) (x3 : Str), Item.own (.bool true) (true : Bool)] := hC33.front 2 rfl
    exact ⟨_, rfl, res3_of hC34⟩

theorem c_Q_eqStringS {w0 : World} (a1 : (List Str)) (u1 : Value) (g1 : RO [] w0 u1 a1) (a2 : (List Str)) (u2 : Value) (g2 : RO [] w0 u2 a2) (rr : Bool) (hF : Q.eqStringS a1 a2 = some rr) :
    Calls Try.prog 44 [u1, u2].toArray w0 fun e w' => ∃ v, e = .returned v ∧ Res w0 rr v w' := by
  refine calls_of_W Try.func44 rfl rfl ?_
  have hC0 := Ctx.start w0
  unfold Q.eqStringS at hF
  refine W_seq_reg ?_
  refine WL_assign rfl rfl ?_
  refine WL_nil ?_
  refine W_seq ?_
  refine W_seq_reg ?_
  refine WL_move rfl rfl ?_
  refine WL_len Try.underlying58 g1 rfl rfl ?_
  refine WL_move rfl rfl ?_
  refine WL_len Try.underlying58 g2 rfl rfl ?_
  refine WL_neq rfl rfl rfl ?_
  refine WL_nil ?_
  refine W_cond rfl (fun hc1 => ?_) (fun hc1 => ?_)
  · replace hF := ite_t hF hc1
    refine W_seq_reg ?_
    refine WL_assign rfl rfl ?_
    refine WL_nil ?_
    refine W_ret ?_
    refine nrm_ret ?_
    have hq1 := Option.some.inj hF
    subst hq1
    refine fn_ret1 rfl rfl ?_
    exact ⟨_, rfl, bool_res hC0 _⟩
  · replace hF := ite_f hF hc1
    refine W_skip ?_
    refine nrm_normal ?_
    refine W_seq ?_
    refine W_seq_reg ?_
    refine WL_assign rfl rfl ?_
    refine WL_nil ?_
    obtain ⟨r1, hr1, hF⟩ := bind_some hF
    refine W_norm (fun l w => .inl () = r1 ∧ l = [] ∧ Below w0.heap.size w0 w ∧ Ctx [] w0 w []) ?_ ?_
    · refine W_block ?_
      refine W.sub (l' := [(0, u1), (1, u2), (5, (.int .i64 0))]) ?_ ⟨rfl, rfl, rfl, trivial⟩
      refine W_loop (fun k l w => ∃ x1 : Int, l = [(0, u1), (1, u2), (5, (.int .i64 x1))] ∧ Below w0.heap.size w0 w ∧ Ctx [] w0 w [] ∧ Q.eqStringS_l1 a1 a2 k x1 = some r1) FUEL ⟨0, rfl, (Below.refl _ _), hC0, hr1⟩ ?_
      clear hr1
      rintro k1 _ w1 ⟨x1, rfl, hB1, hC1, hL1⟩
      cases k1 with
      | zero => rw [Q.eqStringS_l1] at hL1; cases hL1
      | succ k1 =>
        rw [Q.eqStringS_l1] at hL1
        refine W_seq ?_
        refine W_seq_reg ?_
        refine WL_move rfl rfl ?_
        refine WL_move rfl rfl ?_
        refine WL_len Try.underlying58 g1 rfl rfl ?_
        refine WL_lss rfl rfl rfl ?_
        refine WL_nil ?_
        refine W_cond rfl (fun hc2 => ?_) (fun hc2 => ?_)
        · replace hL1 := ite_t hL1 hc2
          refine W_skip ?_
          refine nrm_normal ?_
          refine W_seq ?_
          refine W_block ?_
          refine W_seq ?_
          refine W_drawn 9 rfl hmix (fun w2 hB2 => ?_)
          have hC2 := hC1.grow hB2
          refine WA_take 0 rfl (by kernel_rfl) (by kernel_rfl) (by kernel_rfl) rfl (fl_move rfl) ?_
          refine WL_move rfl rfl ?_
          refine WL_nil ?_
          refine WA_take 1 rfl (by kernel_rfl) (by kernel_rfl) (by kernel_rfl) rfl (fl_move rfl) ?_
          refine WL_move rfl rfl ?_
          refine WL_nil ?_
          obtain ⟨x2, hx1, hL1⟩ := bind_some hL1
          refine WA_take 2 rfl (by kernel_rfl) (by kernel_rfl) (by kernel_rfl) rfl (fl_index Try.underlying58 ty9 g1 hx1 rfl rfl) ?_
          refine WL_index Try.underlying58 ty9 g1 hx1 rfl rfl rfl (fun b1 o1 h1 => ?_)
          refine WL_nil ?_
          refine WA_take 4 rfl (by kernel_rfl) (by kernel_rfl) (by kernel_rfl) rfl (fl_move rfl) ?_
          refine WL_move rfl rfl ?_
          refine WL_nil ?_
          refine WA_take 5 rfl (by kernel_rfl) (by kernel_rfl) (by kernel_rfl) rfl (fl_move rfl) ?_
          refine WL_move rfl rfl ?_
          refine WL_nil ?_
          obtain ⟨x3, hx2, hL1⟩ := bind_some hL1
          refine WA_take 6 rfl (by kernel_rfl) (by kernel_rfl) (by kernel_rfl) rfl (fl_index Try.underlying58 ty9 g2 hx2 rfl rfl) ?_
          refine WL_index Try.underlying58 ty9 g2 hx2 rfl rfl rfl (fun b2 o2 h2 => ?_)
          refine WL_nil ?_
          refine WA.sub (l' := [(0, u1), (1, u2), (5, (.int .i64 x1)), (11, (.int .i64 x1)), (12, u1), (13, (.int .i64 (List.length a1 : Int))), (14, (.bool (decide (x1 < (List.length a1 : Int))))), (17, u1), (18, (.int .i64 x1)), (19, (ptr b1 o1)), (21, u2), (22, (.int .i64 x1)), (23, (ptr b2 o2))]) ?_ ⟨rfl, rfl, rfl, rfl, rfl, rfl, rfl, rfl, rfl, rfl, rfl, rfl, rfl, trivial⟩
          refine WA_postsE [⟨3, [], fun vs => PW.val (sv x2), []⟩, ⟨7, [], fun vs => PW.val (sv x3), []⟩] [[], []] 1 rfl (by kernel_rfl) (by kernel_rfl) rfl ?_ ?_
          · refine StepsE_cons rfl ?_ ?_
            · intro w3 hB3
              refine DepsE_nil ?_
              refine ⟨_, rfl, ?_⟩
              refine WL_load ty9 h1 (hC2.keep.then hB3) rfl rfl (fun v1 h3 => ?_)
              obtain rfl := ro_str h3
              refine WL_nil ?_
              exact FinE_val (Below.refl _ _) rfl rfl ⟨rfl, rfl⟩
            refine StepsE_cons rfl ?_ ?_
            · intro w3 hB3
              refine DepsE_nil ?_
              refine ⟨_, rfl, ?_⟩
              refine WL_load ty9 h2 (hC2.keep.then hB3) rfl rfl (fun v2 h4 => ?_)
              obtain rfl := ro_str h4
              refine WL_nil ?_
              exact FinE_val (Below.refl _ _) rfl rfl ⟨rfl, rfl⟩
            exact StepsE_nil
          · intro w4 hB4
            refine AllE_cons rfl rfl rfl ?_
            rintro _ _ ⟨rfl, rfl⟩
            refine AllE_cons rfl rfl rfl ?_
            rintro _ _ ⟨rfl, rfl⟩
            refine AllE_nil ?_
            intro hn1 hb1
            have hC3 := hC2.grow hB4
            refine WA_take 8 rfl (by kernel_rfl) (by kernel_rfl) (by kernel_rfl) rfl (fl_str_neq rfl rfl) ?_
            refine WL_str_neq rfl rfl rfl ?_
            refine WL_nil ?_
            refine WA_done (by kernel_rfl) ?_
            refine nrm_normal ?_
            refine W_cond rfl (fun hc3 => ?_) (fun hc3 => ?_)
            · replace hL1 := ite_t hL1 hc3
              refine W_seq_reg ?_
              refine WL_assign rfl rfl ?_
              refine WL_nil ?_
              refine W_ret ?_
              refine blk_ret ?_
              refine nrm_ret ?_
              refine nrm_ret ?_
              refine blk_ret ?_
              refine nrm_ret ?_
              refine nrm_ret ?_
              have hq2 := Option.some.inj hL1
              subst hq2
              dsimp only at hF
              have hq3 := Option.some.inj hF
              subst hq3
              refine fn_ret1 rfl rfl ?_
              exact ⟨_, rfl, bool_res hC3 _⟩
            · replace hL1 := ite_f hL1 hc3
              refine W_skip ?_
              refine blk_normal ?_
              refine nrm_normal ?_
              refine W_reg ?_
              refine WL_move rfl rfl ?_
              refine WL_add rfl rfl rfl ?_
              refine WL_assign rfl rfl ?_
              refine WL_nil ?_
              refine nrm_sub (l' := [(0, u1), (1, u2), (5, (.int .i64 (w64 (x1 + 1))))]) ⟨rfl, rfl, rfl, trivial⟩ ?_
              exact ⟨k1, Nat.lt_succ_self _, w64 (x1 + 1), rfl, (((Keep.of hB1).then hB2).then hB4).below, hC3, hL1⟩
        · replace hL1 := ite_f hL1 hc2
          refine W_exit ?_
          refine nrm_exit ?_
          refine nrm_exit ?_
          refine blk_exit ?_
          have hq4 := Option.some.inj hL1
          subst hq4
          refine nrm_sub (l' := []) trivial ?_
          exact ⟨rfl, rfl, (Keep.of hB1).below, hC1⟩
    · rintro l2 _ w5 hs2 ⟨rfl, rfl, hB5, hC4⟩
      try dsimp only at hF
      refine nrm_sub' hs2 ?_
      clear hs2
      refine W_seq_reg ?_
      refine WL_assign rfl rfl ?_
      refine WL_nil ?_
      refine W_ret ?_
      have hq5 := Option.some.inj hF
      subst hq5
      refine fn_ret1 rfl rfl ?_
      exact ⟨_, rfl, bool_res hC4 _⟩

theorem c_Q_markText {w0 : World} (a1 : Int) (rr : Str) (hF : Q.markText a1 = some rr) :
    Calls Try.prog 97 [(.int .i64 a1)].toArray w0 fun e w' => ∃ v, e = .returned v ∧ Res w0 rr v w' := by
  refine calls_of_W Try.func97 rfl rfl ?_
  have hC0 := Ctx.start w0
  unfold Q.markText at hF
  refine W_seq_reg ?_
  refine WL_assign rfl rfl ?_
  refine WL_nil ?_
  refine W_seq ?_
  refine W_seq_reg ?_
  refine WL_move rfl rfl ?_
  refine WL_leq rfl rfl rfl ?_
  refine WL_nil ?_
  refine W_cond rfl (fun hc1 => ?_) (fun hc1 => ?_)
  · replace hF := ite_t hF hc1
    refine W_seq_reg ?_
    refine WL_assign rfl rfl ?_
    refine WL_nil ?_
    refine W_ret ?_
    refine nrm_ret ?_
    have hq1 := Option.some.inj hF
    subst hq1
    refine fn_ret1 rfl rfl ?_
    exact ⟨_, rfl, str_res hC0 _⟩
  · replace hF := ite_f hF hc1
    refine W_skip ?_
    refine nrm_normal ?_
    refine W_seq_reg ?_
    refine WL_assign rfl rfl ?_
    refine WL_nil ?_
    refine W_seq ?_
    obtain ⟨r1, hr1, hF⟩ := bind_some hF
    refine W_norm (fun l w => ∃ x3 : Str, x3 = r1 ∧ l = [(3, (sv x3))] ∧ Below w0.heap.size w0 w ∧ Ctx [] w0 w []) ?_ ?_
    · refine W_block ?_
      refine W.sub (l' := [(0, (.int .i64 a1)), (3, (sv (str [])))]) ?_ ⟨rfl, rfl, trivial⟩
      refine W_loop (fun k l w => ∃ x1 : Int, ∃ x2 : Str, l = [(0, (.int .i64 x1)), (3, (sv x2))] ∧ Below w0.heap.size w0 w ∧ Ctx [] w0 w [] ∧ Q.markText_l1 k x1 x2 = some r1) FUEL ⟨a1, (str []), rfl, (Below.refl _ _), hC0, hr1⟩ ?_
      clear hr1
      rintro k1 _ w1 ⟨x1, x2, rfl, hB1, hC1, hL1⟩
      cases k1 with
      | zero => rw [Q.markText_l1] at hL1; cases hL1
      | succ k1 =>
        rw [Q.markText_l1] at hL1
        refine W_seq ?_
        refine W_seq_reg ?_
        refine WL_move rfl rfl ?_
        refine WL_gtr rfl rfl rfl ?_
        refine WL_nil ?_
        refine W_cond rfl (fun hc2 => ?_) (fun hc2 => ?_)
        · replace hL1 := ite_t hL1 hc2
          refine W_skip ?_
          refine nrm_normal ?_
          refine W_block ?_
          refine W_seq_reg ?_
          refine WL_move rfl rfl ?_
          refine WL_rem (by decide) rfl rfl rfl ?_
          refine WL_add rfl rfl rfl ?_
          refine WL_conv_u8 Try.underlying3 Try.underlying5 rfl rfl ?_
          refine WL_buildSlice (vs := [(.int .u8 (w8 (w64 (48 + (x1.tmod 10)))))]) hC1 Try.underlying71 ty5 rfl rfl rfl rfl (by intro v hv; simp only [List.mem_cons, List.not_mem_nil, or_false] at hv; rcases hv with rfl <;> rfl) rfl rfl (fun b1 w2 hC2 hB2 => ?_)
          have hC3 := hC2.row0 (α := UInt8)
          have hC4 := hC3.triv (u8_val (w64 (48 + (x1.tmod 10))))
          have hC5 := hC4.row1
          have hC6 := hC5.front 1 rfl
          dsimp only [List.eraseIdx, List.cons_append, List.nil_append, List.append_nil] at hC6
          have hC7 : Ctx [] w0 w2 (Item.own (.slice (some ⟨b1, 0, none⟩) 1 1) ([(u8 (w64 (48 + (x1.tmod 10))))] : List UInt8) :: []) := hC6.rowOwn (by simp [maxLen])
          refine WL_conv_bytes Try.underlying71 Try.underlying5 Try.underlying9 (hC7.ro 0 rfl) (Keep.refl _ _) rfl rfl ?_
          refine WL_move rfl rfl ?_
          obtain ⟨x4, hx1, hL1⟩ := bind_some hL1
          refine WL_str_add hx1 rfl rfl rfl ?_
          refine WL_assign rfl rfl ?_
          refine WL_nil ?_
          refine W_reg ?_
          refine WL_move rfl rfl ?_
          refine WL_quo (by decide) rfl rfl rfl ?_
          refine WL_assign rfl rfl ?_
          refine WL_nil ?_
          refine blk_normal ?_
          have hC8 : Ctx [] w0 _ [] := hC7.headN 0
          refine nrm_sub (l' := [(0, (.int .i64 (w64 (x1.tdiv 10)))), (3, (sv x4))]) ⟨rfl, rfl, trivial⟩ ?_
          exact ⟨k1, Nat.lt_succ_self _, w64 (x1.tdiv 10), x4, rfl, ((Keep.of hB1).then hB2).below, hC8, hL1⟩
        · replace hL1 := ite_f hL1 hc2
          refine W_exit ?_
          refine nrm_exit ?_
          refine nrm_exit ?_
          refine blk_exit ?_
          have hq2 := Option.some.inj hL1
          subst hq2
          refine nrm_sub (l' := [(3, (sv x2))]) ⟨rfl, trivial⟩ ?_
          exact ⟨x2, rfl, rfl, (Keep.of hB1).below, hC1⟩
    · rintro l2 _ w3 hs2 ⟨x3, rfl, rfl, hB3, hC9⟩
      try dsimp only at hF
      refine nrm_sub' hs2 ?_
      clear hs2
      refine W_seq_reg ?_
      refine WL_move rfl rfl ?_
      obtain ⟨x5, hx2, hF⟩ := bind_some hF
      refine WL_str_add hx2 rfl rfl rfl ?_
      refine WL_assign rfl rfl ?_
      refine WL_nil ?_
      refine W_ret ?_
      have hq3 := Option.some.inj hF
      subst hq3
      refine fn_ret1 rfl rfl ?_
      exact ⟨_, rfl, str_res hC9 _⟩

theorem c_Q_markStringS {w0 : World} {Fs : List (List Nat)} (a1 : (List Str)) (u1 : Value) (a2 : Int) (hH : Hold [Item.own u1 (a1 : (List Str))] w0 Fs) (hn : Fs.flatten.Nodup) (rr : (Int × (List Str))) (hF : Q.markStringS a1 a2 = some rr) :
    Calls Try.prog 45 [u1, (.int .i64 a2)].toArray w0 fun e w' => ∃ v, e = .returned v ∧ v = (.int .i64 rr.1) ∧ Ctx Fs.flatten w0 w' [Item.own u1 (rr.2 : (List Str))] := by
  refine calls_of_W Try.func45 rfl rfl ?_
  have hC0 := Ctx.startIn hH hn
  unfold Q.markStringS at hF
  refine W_seq_reg ?_
  refine WL_assign rfl rfl ?_
  refine WL_nil ?_
  refine W_seq ?_
  refine W_seq_reg ?_
  refine WL_assign rfl rfl ?_
  refine WL_nil ?_
  obtain ⟨r1, hr1, hF⟩ := bind_some hF
  refine W_norm (fun l w => ∃ x4 : (List Str), ∃ x5 : Int, (x4, x5) = r1 ∧ l = [(1, (.int .i64 x5))] ∧ Ctx Fs.flatten w0 w [Item.own u1 (x4 : (List Str))]) ?_ ?_
  · refine W_block ?_
    refine W.sub (l' := [(0, u1), (1, (.int .i64 a2)), (5, (.int .i64 0))]) ?_ ⟨rfl, rfl, rfl, trivial⟩
    refine W_loop (fun k l w => ∃ x1 : (List Str), ∃ x2 : Int, ∃ x3 : Int, l = [(0, u1), (1, (.int .i64 x2)), (5, (.int .i64 x3))] ∧ Ctx Fs.flatten w0 w [Item.own u1 (x1 : (List Str))] ∧ Q.markStringS_l1 k x1 x2 x3 = some r1) FUEL ⟨a1, a2, 0, rfl, hC0, hr1⟩ ?_
    clear hr1
    rintro k1 _ w1 ⟨x1, x2, x3, rfl, hC1, hL1⟩
    cases k1 with
    | zero => rw [Q.markStringS_l1] at hL1; cases hL1
    | succ k1 =>
      rw [Q.markStringS_l1] at hL1
      refine W_seq ?_
      refine W_seq_reg ?_
      refine WL_move rfl rfl ?_
      refine WL_move rfl rfl ?_
      refine WL_len Try.underlying58 (hC1.ro 0 rfl) rfl rfl ?_
      refine WL_lss rfl rfl rfl ?_
      refine WL_nil ?_
      refine W_cond rfl (fun hc1 => ?_) (fun hc1 => ?_)
      · replace hL1 := ite_t hL1 hc1
        refine W_skip ?_
        refine nrm_normal ?_
        refine W_seq ?_
        refine W_block ?_
        refine W_seq_reg ?_
        refine WL_move rfl rfl ?_
        refine WL_move rfl rfl ?_
        refine WL_move rfl rfl ?_
        obtain ⟨x6, hr2, hL1⟩ := bind_some hL1
        refine WL_call Try.call97 rfl rfl (c_Q_markText x2 x6 hr2) ?_
        intro _ w2 hv1
        obtain ⟨rfl, hB2⟩ := res_str hv1
        have hC2 := hC1.grow hB2
        obtain ⟨x7, hx1, hL1⟩ := bind_some hL1
        refine WL_index_own hC2 0 rfl Try.underlying58 ty9 hx1 rfl rfl rfl (fun b1 hE1 => ?_)
        have hC4 := hC2.triv (str_val (x6))
        refine WL_store_elem hC4 0 rfl ty9 hE1 hx1 rfl rfl rfl (fun w3 hC3 => ?_)
        try dsimp only [List.set] at hC3
        refine WL_nil ?_
        refine W_reg ?_
        refine WL_move rfl rfl ?_
        refine WL_add rfl rfl rfl ?_
        refine WL_assign rfl rfl ?_
        refine WL_nil ?_
        refine blk_normal ?_
        refine nrm_normal ?_
        refine W_reg ?_
        refine WL_move rfl rfl ?_
        refine WL_add rfl rfl rfl ?_
        refine WL_assign rfl rfl ?_
        refine WL_nil ?_
        refine nrm_sub (l' := [(0, u1), (1, (.int .i64 (w64 (x2 + 1)))), (5, (.int .i64 (w64 (x3 + 1))))]) ⟨rfl, rfl, rfl, trivial⟩ ?_
        exact ⟨k1, Nat.lt_succ_self _, (List.set x1 (Int.toNat x3) x6), w64 (x2 + 1), w64 (x3 + 1), rfl, hC3, hL1⟩
      · replace hL1 := ite_f hL1 hc1
        refine W_exit ?_
        refine nrm_exit ?_
        refine nrm_exit ?_
        refine blk_exit ?_
        have hq1 := Option.some.inj hL1
        subst hq1
        refine nrm_sub (l' := [(1, (.int .i64 x2))]) ⟨rfl, trivial⟩ ?_
        exact ⟨x1, x2, rfl, rfl, hC1⟩
  · rintro l2 _ w4 hs2 ⟨x4, x5, rfl, rfl, hC5⟩
    try dsimp only at hF
    refine nrm_sub' hs2 ?_
    clear hs2
    refine W_seq_reg ?_
    refine WL_move rfl rfl ?_
    refine WL_assign rfl rfl ?_
    refine WL_nil ?_
    refine W_ret ?_
    have hq2 := Option.some.inj hF
    subst hq2
    refine fn_ret1 rfl rfl ?_
    exact ⟨_, rfl, rfl, hC5⟩

theorem c_Q_heldStringS {w0 : World} (a1 : (List Str)) (u1 : Value) (g1 : RO [] w0 u1 a1) (a2 : Int) (rr : Int) (hF : Q.heldStringS a1 a2 = some rr) :
    Calls Try.prog 46 [u1, (.int .i64 a2)].toArray w0 fun e w' => ∃ v, e = .returned v ∧ Res w0 rr v w' := by
  refine calls_of_W Try.func46 rfl rfl ?_
  have hC0 := Ctx.start w0
  unfold Q.heldStringS at hF
  refine W_seq_reg ?_
  refine WL_assign rfl rfl ?_
  refine WL_nil ?_
  refine W_seq ?_
  refine W_seq_reg ?_
  refine WL_assign rfl rfl ?_
  refine WL_nil ?_
  obtain ⟨r1, hr1, hF⟩ := bind_some hF
  refine W_norm (fun l w => ∃ x3 : Int, .inl x3 = r1 ∧ l = [(1, (.int .i64 x3))] ∧ Below w0.heap.size w0 w ∧ Ctx [] w0 w []) ?_ ?_
  · refine W_block ?_
    refine W.sub (l' := [(0, u1), (1, (.int .i64 a2)), (5, (.int .i64 0))]) ?_ ⟨rfl, rfl, rfl, trivial⟩
    refine W_loop (fun k l w => ∃ x1 : Int, ∃ x2 : Int, l = [(0, u1), (1, (.int .i64 x1)), (5, (.int .i64 x2))] ∧ Below w0.heap.size w0 w ∧ Ctx [] w0 w [] ∧ Q.heldStringS_l1 a1 k x1 x2 = some r1) FUEL ⟨a2, 0, rfl, (Below.refl _ _), hC0, hr1⟩ ?_
    clear hr1
    rintro k1 _ w1 ⟨x1, x2, rfl, hB1, hC1, hL1⟩
    cases k1 with
    | zero => rw [Q.heldStringS_l1] at hL1; cases hL1
    | succ k1 =>
      rw [Q.heldStringS_l1] at hL1
      refine W_seq ?_
      refine W_seq_reg ?_
      refine WL_move rfl rfl ?_
      refine WL_move rfl rfl ?_
      refine WL_len Try.underlying58 g1 rfl rfl ?_
      refine WL_lss rfl rfl rfl ?_
      refine WL_nil ?_
      refine W_cond rfl (fun hc1 => ?_) (fun hc1 => ?_)
      · replace hL1 := ite_t hL1 hc1
        refine W_skip ?_
        refine nrm_normal ?_
        refine W_seq ?_
        refine W_block ?_
        refine W_seq ?_
        refine W_seq ?_
        refine W_drawn 7 rfl hmix (fun w2 hB2 => ?_)
        have hC2 := hC1.grow hB2
        refine WA_take 0 rfl (by kernel_rfl) (by kernel_rfl) (by kernel_rfl) rfl (fl_move rfl) ?_
        refine WL_move rfl rfl ?_
        refine WL_nil ?_
        refine WA_take 1 rfl (by kernel_rfl) (by kernel_rfl) (by kernel_rfl) rfl (fl_move rfl) ?_
        refine WL_move rfl rfl ?_
        refine WL_nil ?_
        obtain ⟨x4, hx1, hL1⟩ := bind_some hL1
        refine WA_take 2 rfl (by kernel_rfl) (by kernel_rfl) (by kernel_rfl) rfl (fl_index Try.underlying58 ty9 g1 hx1 rfl rfl) ?_
        refine WL_index Try.underlying58 ty9 g1 hx1 rfl rfl rfl (fun b1 o1 h1 => ?_)
        refine WL_nil ?_
        refine WA_take 4 rfl (by kernel_rfl) (by kernel_rfl) (by kernel_rfl) rfl (fl_move rfl) ?_
        refine WL_move rfl rfl ?_
        refine WL_nil ?_
        obtain ⟨x5, hr2, hL1⟩ := bind_some hL1
        refine WA.sub (l' := [(0, u1), (1, (.int .i64 x1)), (5, (.int .i64 x2)), (6, (.int .i64 x2)), (7, u1), (8, (.int .i64 (List.length a1 : Int))), (9, (.bool (decide (x2 < (List.length a1 : Int))))), (12, u1), (13, (.int .i64 x2)), (14, (ptr b1 o1)), (16, (.int .i64 x1))]) ?_ ⟨rfl, rfl, rfl, rfl, rfl, rfl, rfl, rfl, rfl, rfl, rfl, trivial⟩
        refine WA_postsE [⟨3, [], fun vs => PW.val (sv x4), []⟩, ⟨5, [], fun vs => PW.val (sv x5), []⟩] [[], []] 1 rfl (by kernel_rfl) (by kernel_rfl) rfl ?_ ?_
        · refine StepsE_cons rfl ?_ ?_
          · intro w4 hB4
            refine DepsE_nil ?_
            refine ⟨_, rfl, ?_⟩
            refine WL_load ty9 h1 (hC2.keep.then hB4) rfl rfl (fun v1 h2 => ?_)
            obtain rfl := ro_str h2
            refine WL_nil ?_
            exact FinE_val (Below.refl _ _) rfl rfl ⟨rfl, rfl⟩
          refine StepsE_cons rfl ?_ ?_
          · intro w4 hB4
            refine DepsE_nil ?_
            refine ⟨_, rfl, ?_⟩
            refine WL_call Try.call97 rfl rfl (c_Q_markText x1 x5 hr2) ?_
            intro _ w3 hv1
            obtain ⟨rfl, hB3⟩ := res_str hv1
            refine WL_nil ?_
            exact FinE_val hB3 rfl rfl ⟨rfl, rfl⟩
          exact StepsE_nil
        · intro w5 hB5
          refine AllE_cons rfl rfl rfl ?_
          rintro _ _ ⟨rfl, rfl⟩
          refine AllE_cons rfl rfl rfl ?_
          rintro _ _ ⟨rfl, rfl⟩
          refine AllE_nil ?_
          intro hn1 hb1
          have hC3 := hC2.grow hB5
          refine WA_take 6 rfl (by kernel_rfl) (by kernel_rfl) (by kernel_rfl) rfl (fl_str_neq rfl rfl) ?_
          refine WL_str_neq rfl rfl rfl ?_
          refine WL_nil ?_
          refine WA_done (by kernel_rfl) ?_
          refine nrm_normal ?_
          refine W_cond rfl (fun hc2 => ?_) (fun hc2 => ?_)
          · replace hL1 := ite_t hL1 hc2
            refine W_seq_reg ?_
            refine WL_assign rfl rfl ?_
            refine WL_nil ?_
            refine W_ret ?_
            refine nrm_ret ?_
            refine blk_ret ?_
            refine nrm_ret ?_
            refine nrm_ret ?_
            refine blk_ret ?_
            refine nrm_ret ?_
            refine nrm_ret ?_
            have hq1 := Option.some.inj hL1
            subst hq1
            dsimp only at hF
            have hq2 := Option.some.inj hF
            subst hq2
            refine fn_ret1 rfl rfl ?_
            exact ⟨_, rfl, int_res hC3 _⟩
          · replace hL1 := ite_f hL1 hc2
            refine W_skip ?_
            refine nrm_normal ?_
            refine W_reg ?_
            refine WL_move rfl rfl ?_
            refine WL_add rfl rfl rfl ?_
            refine WL_assign rfl rfl ?_
            refine WL_nil ?_
            refine blk_normal ?_
            refine nrm_normal ?_
            refine W_reg ?_
            refine WL_move rfl rfl ?_
            refine WL_add rfl rfl rfl ?_
            refine WL_assign rfl rfl ?_
            refine WL_nil ?_
            refine nrm_sub (l' := [(0, u1), (1, (.int .i64 (w64 (x1 + 1)))), (5, (.int .i64 (w64 (x2 + 1))))]) ⟨rfl, rfl, rfl, trivial⟩ ?_
            exact ⟨k1, Nat.lt_succ_self _, w64 (x1 + 1), w64 (x2 + 1), rfl, (((Keep.of hB1).then hB2).then hB5).below, hC3, hL1⟩
      · replace hL1 := ite_f hL1 hc1
        refine W_exit ?_
        refine nrm_exit ?_
        refine nrm_exit ?_
        refine blk_exit ?_
        have hq3 := Option.some.inj hL1
        subst hq3
        refine nrm_sub (l' := [(1, (.int .i64 x1))]) ⟨rfl, trivial⟩ ?_
        exact ⟨x1, rfl, rfl, (Keep.of hB1).below, hC1⟩
  · rintro l2 _ w6 hs2 ⟨x3, rfl, rfl, hB6, hC4⟩
    try dsimp only at hF
    refine nrm_sub' hs2 ?_
    clear hs2
    refine W_seq_reg ?_
    refine WL_move rfl rfl ?_
    refine WL_assign rfl rfl ?_
    refine WL_nil ?_
    refine W_ret ?_
    have hq4 := Option.some.inj hF
    subst hq4
    refine fn_ret1 rfl rfl ?_
    exact ⟨_, rfl, int_res hC4 _⟩

theorem c_Q_FnExactSplitFrames {w0 : World} (a1 : Str) (rr : Bool) (hF : Q.FnExactSplitFrames a1 = some rr) :
    Calls Try.prog 10 [(sv a1)].toArray w0 fun e w' => ∃ v, e = .returned v ∧ Res w0 rr v w' := by
  refine calls_of_W Try.func10 rfl rfl ?_
  have hC0 := Ctx.start w0
  unfold Q.FnExactSplitFrames at hF
  refine W_seq_reg ?_
  refine WL_assign rfl rfl ?_
  refine WL_nil ?_
  refine W_seq ?_
  refine W_seq_reg ?_
  refine WL_move rfl rfl ?_
  refine WL_len_str Try.underlying9 rfl rfl ?_
  refine WL_gtr rfl rfl rfl ?_
  refine WL_nil ?_
  refine W_cond rfl (fun hc1 => ?_) (fun hc1 => ?_)
  · replace hF := ite_t hF hc1
    refine W_seq_reg ?_
    refine WL_assign rfl rfl ?_
    refine WL_nil ?_
    refine W_ret ?_
    refine nrm_ret ?_
    have hq1 := Option.some.inj hF
    subst hq1
    refine fn_ret1 rfl rfl ?_
    exact ⟨_, rfl, bool_res hC0 _⟩
  · replace hF := ite_f hF hc1
    refine W_skip ?_
    refine nrm_normal ?_
    refine W_seq_reg ?_
    refine WL_move rfl rfl ?_
    obtain ⟨x1, hr1, hF⟩ := bind_some hF
    refine WL_call Try.call42 rfl rfl (c_S_SplitFrames a1 x1 hr1) ?_
    rintro _ w1 ⟨hB1, v1, v2, v3, F1, F2, F3, rfl, hv1, hv2, hv3, hn1, hb1⟩
    obtain ⟨rfl, rfl⟩ := val_str hv2
    obtain ⟨rfl, rfl⟩ := val_bool hv3
    have hC1 := hC0.pushL hB1 (Bs := [Item.own v1 x1.1]) (Fs := [F1]) ⟨F1, _, rfl, hv1, rfl⟩ (by simpa using hn1) (fun b h => hb1 b (by simpa using h))
    refine WL_move rfl rfl ?_
    refine WL_extract rfl rfl rfl ?_
    refine WL_extract rfl rfl rfl ?_
    refine WL_extract rfl rfl rfl ?_
    refine WL_assign rfl rfl ?_
    refine WL_assign rfl rfl ?_
    refine WL_assign rfl rfl ?_
    refine WL_nil ?_
    refine W_seq_reg ?_
    refine WL_move rfl rfl ?_
    obtain ⟨x2, hr2, hF⟩ := bind_some hF
    refine WL_call Try.call43 rfl rfl (c_M_SplitFrames a1 x2 hr2) ?_
    rintro _ w2 ⟨hB2, v4, v5, v6, F4, F5, F6, rfl, hv4, hv5, hv6, hn2, hb2⟩
    obtain ⟨rfl, rfl⟩ := val_str hv5
    obtain ⟨rfl, rfl⟩ := val_bool hv6
    have hC2 := hC1.pushL hB2 (Bs := [Item.own v4 x2.1]) (Fs := [F4]) ⟨F4, _, rfl, hv4, rfl⟩ (by simpa using hn2) (fun b h => hb2 b (by simpa using h))
    refine WL_move rfl rfl ?_
    refine WL_extract rfl rfl rfl ?_
    refine WL_extract rfl rfl rfl ?_
    refine WL_extract rfl rfl rfl ?_
    refine WL_assign rfl rfl ?_
    refine WL_assign rfl rfl ?_
    refine WL_assign rfl rfl ?_
    refine WL_nil ?_
    refine W_seq ?_
    obtain ⟨r1, hr3, hF⟩ := bind_some hF
    refine W_cut (fun l w => ∃ x3 : Bool, x3 = r1 ∧ l = [(0, (sv a1)), (3, v1), (4, (sv x1.2.1)), (5, (.bool x1.2.2)), (6, v4), (42, (.bool x3))] ∧ Below w2.heap.size w2 w ∧ Ctx [] w0 w [Item.own v4 (x2.1 : (List Str)), Item.own v1 (x1.1 : (List Str))]) ?_ ?_
    · refine W_reg ?_
      refine WL_move rfl rfl ?_
      refine WL_move rfl rfl ?_
      obtain ⟨x4, hr4, hr3⟩ := bind_some hr3
      refine WL_call Try.call44 rfl rfl (c_Q_eqStringS x2.1 v4 ((hC2.ro 0 rfl).now (Keep.refl _ _)) x1.1 v1 ((hC2.ro 1 rfl).now (Keep.refl _ _)) x4 hr4) ?_
      intro _ w4 hv7
      obtain ⟨rfl, hB4⟩ := res_bool hv7
      have hC4 := hC2.grow hB4
      refine WL_not rfl rfl ?_
      refine WL_move rfl rfl ?_
      refine WL_fork (fun hc2 => ?_) (fun hc2 => ?_)
      · replace hr3 := ite_t hr3 hc2
        refine WL_guard_skip rfl rfl (by simp) rfl ?_
        refine WL_guard_skip rfl rfl (by simp) rfl ?_
        refine WL_guard_skip rfl rfl (by simp) rfl ?_
        refine WL_pick_t rfl rfl rfl ?_
        refine WL_move rfl rfl ?_
        refine WL_guard_skip rfl rfl (by simp) rfl ?_
        refine WL_guard_skip rfl rfl (by simp) rfl ?_
        refine WL_guard_skip rfl rfl (by simp) rfl ?_
        refine WL_pick_t rfl rfl rfl ?_
        refine WL_nil ?_
        have hq2 := Option.some.inj hr3
        subst hq2
        refine nrm_sub (l' := [(0, (sv a1)), (3, v1), (4, (sv x1.2.1)), (5, (.bool x1.2.2)), (6, v4), (42, (.bool true))]) ⟨rfl, rfl, rfl, rfl, rfl, rfl, trivial⟩ ?_
        exact ⟨true, rfl, rfl, (Keep.of hB4).below, hC4⟩
      · replace hr3 := ite_f hr3 hc2
        refine WL_guard rfl rfl ?_
        refine WL_move rfl rfl ?_
        refine WL_guard rfl rfl ?_
        refine WL_move rfl rfl ?_
        refine WL_guard rfl rfl ?_
        refine WL_str_neq rfl rfl rfl ?_
        refine WL_pick_f rfl rfl rfl ?_
        refine WL_move rfl rfl ?_
        refine WL_fork (fun hc3 => ?_) (fun hc3 => ?_)
        · replace hr3 := ite_t hr3 hc3
          refine WL_guard_skip rfl rfl (by simp) rfl ?_
          refine WL_guard_skip rfl rfl (by simp) rfl ?_
          refine WL_guard_skip rfl rfl (by simp) rfl ?_
          refine WL_pick_t rfl rfl rfl ?_
          refine WL_nil ?_
          have hq3 := Option.some.inj hr3
          subst hq3
          refine nrm_sub (l' := [(0, (sv a1)), (3, v1), (4, (sv x1.2.1)), (5, (.bool x1.2.2)), (6, v4), (42, (.bool true))]) ⟨rfl, rfl, rfl, rfl, rfl, rfl, trivial⟩ ?_
          exact ⟨true, rfl, rfl, (Keep.of hB4).below, hC4⟩
        · replace hr3 := ite_f hr3 hc3
          refine WL_guard rfl rfl ?_
          refine WL_move rfl rfl ?_
          refine WL_guard rfl rfl ?_
          refine WL_move rfl rfl ?_
          refine WL_guard rfl rfl ?_
          refine WL_bool_neq Try.underlying4 rfl rfl rfl ?_
          refine WL_pick_f rfl rfl rfl ?_
          refine WL_nil ?_
          have hq4 := Option.some.inj hr3
          subst hq4
          refine nrm_sub (l' := [(0, (sv a1)), (3, v1), (4, (sv x1.2.1)), (5, (.bool x1.2.2)), (6, v4), (42, (.bool (!decide (x2.2.2 = x1.2.2))))]) ⟨rfl, rfl, rfl, rfl, rfl, rfl, trivial⟩ ?_
          exact ⟨(!decide (x2.2.2 = x1.2.2)), rfl, rfl, (Keep.of hB4).below, hC4⟩
    · rintro _ w3 ⟨x3, rfl, rfl, hB3, hC3⟩
      try dsimp only at hF
      refine W_cond rfl (fun hc4 => ?_) (fun hc4 => ?_)
      · replace hF := ite_t hF hc4
        refine W_seq_reg ?_
        refine WL_assign rfl rfl ?_
        refine WL_nil ?_
        refine W_ret ?_
        refine nrm_ret ?_
        have hq5 := Option.some.inj hF
        subst hq5
        refine fn_ret1 rfl rfl ?_
        exact ⟨_, rfl, bool_res hC3 _⟩
      · replace hF := ite_f hF hc4
        refine W_skip ?_
        refine nrm_normal ?_
        refine W_seq_reg ?_
        refine WL_assign rfl rfl ?_
        refine WL_nil ?_
        refine W_seq_reg ?_
        refine WL_move rfl rfl ?_
        refine WL_move rfl rfl ?_
        obtain ⟨x5, hr5, hF⟩ := bind_some hF
        obtain ⟨Fs1, hH1, hn3, hF1, hO1, hb3⟩ := Ctx.lend2 (As := [Item.own v1 (x1.1 : (List Str))]) [Item.own v4 (x2.1 : (List Str))] hC3
        refine WL_call Try.call45 rfl rfl (c_Q_markStringS x2.1 v4 1 hH1 hn3 x5 hr5) ?_
        rintro _ w5 ⟨rfl, hq6⟩
        have hC6 : Ctx [] w0 w5 [Item.own v4 (x5.2 : (List Str)), Item.own v1 (x1.1 : (List Str))] := hb3 _ _ hq6
        refine WL_assign rfl rfl ?_
        refine WL_nil ?_
        refine W_seq_reg ?_
        refine WL_assign rfl rfl ?_
        refine WL_nil ?_
        refine W_seq_reg ?_
        refine WL_move rfl rfl ?_
        refine WL_move rfl rfl ?_
        obtain ⟨x6, hr6, hF⟩ := bind_some hF
        refine WL_call Try.call46 rfl rfl (c_Q_heldStringS x5.2 v4 ((hC6.ro 0 rfl).now (Keep.refl _ _)) 1 x6 hr6) ?_
        intro _ w6 hv8
        obtain ⟨rfl, hB5⟩ := res_int hv8
        have hC7 := hC6.grow hB5
        refine WL_assign rfl rfl ?_
        refine WL_nil ?_
        refine W_seq ?_
        refine W_seq_reg ?_
        refine WL_move rfl rfl ?_
        refine WL_lss rfl rfl rfl ?_
        refine WL_nil ?_
        refine W_cond rfl (fun hc5 => ?_) (fun hc5 => ?_)
        · replace hF := ite_t hF hc5
          refine W_seq_reg ?_
          refine WL_assign rfl rfl ?_
          refine WL_nil ?_
          refine W_ret ?_
          refine nrm_ret ?_
          have hq7 := Option.some.inj hF
          subst hq7
          refine fn_ret1 rfl rfl ?_
          exact ⟨_, rfl, bool_res hC7 _⟩
        · replace hF := ite_f hF hc5
          refine W_skip ?_
          refine nrm_normal ?_
          refine W_seq ?_
          refine W_seq_reg ?_
          refine WL_move rfl rfl ?_
          refine WL_move rfl rfl ?_
          refine WL_neq rfl rfl rfl ?_
          refine WL_nil ?_
          refine W_cond rfl (fun hc6 => ?_) (fun hc6 => ?_)
          · replace hF := ite_t hF hc6
            refine W_seq_reg ?_
            refine WL_assign rfl rfl ?_
            refine WL_nil ?_
            refine W_ret ?_
            refine nrm_ret ?_
            have hq8 := Option.some.inj hF
            subst hq8
            refine fn_ret1 rfl rfl ?_
            exact ⟨_, rfl, bool_res hC7 _⟩
          · replace hF := ite_f hF hc6
            refine W_skip ?_
            refine nrm_normal ?_
            refine W_seq_reg ?_
            refine WL_move rfl rfl ?_
            obtain ⟨x7, hr7, hF⟩ := bind_some hF
            refine WL_call Try.call43 rfl rfl (c_M_SplitFrames a1 x7 hr7) ?_
            rintro _ w7 ⟨hB6, v7, v8, v9, F7, F8, F9, rfl, hv9, hv10, hv11, hn4, hb4⟩
            obtain ⟨rfl, rfl⟩ := val_str hv10
            obtain ⟨rfl, rfl⟩ := val_bool hv11
            have hC8 := hC7.pushL hB6 (Bs := [Item.own v7 x7.1]) (Fs := [F7]) ⟨F7, _, rfl, hv9, rfl⟩ (by simpa using hn4) (fun b h => hb4 b (by simpa using h))
            refine WL_move rfl rfl ?_
            refine WL_extract rfl rfl rfl ?_
            refine WL_extract rfl rfl rfl ?_
            refine WL_extract rfl rfl rfl ?_
            refine WL_assign rfl rfl ?_
            refine WL_assign rfl rfl ?_
            refine WL_assign rfl rfl ?_
            refine WL_nil ?_
            refine W_seq ?_
            obtain ⟨r2, hr8, hF⟩ := bind_some hF
            refine W_cut (fun l w => ∃ x8 : Bool, x8 = r2 ∧ l = [(6, v4), (9, (.int .i64 x5.1)), (73, (.bool x8))] ∧ Below w7.heap.size w7 w ∧ Ctx [] w0 w [Item.own v4 (x5.2 : (List Str))]) ?_ ?_
            · refine W_reg ?_
              refine WL_move rfl rfl ?_
              refine WL_move rfl rfl ?_
              obtain ⟨x9, hr9, hr8⟩ := bind_some hr8
              refine WL_call Try.call44 rfl rfl (c_Q_eqStringS x7.1 v7 ((hC8.ro 0 rfl).now (Keep.refl _ _)) x1.1 v1 ((hC8.ro 2 rfl).now (Keep.refl _ _)) x9 hr9) ?_
              intro _ w9 hv12
              obtain ⟨rfl, hB8⟩ := res_bool hv12
              have hC10 := hC8.grow hB8
              refine WL_not rfl rfl ?_
              refine WL_move rfl rfl ?_
              refine WL_fork (fun hc7 => ?_) (fun hc7 => ?_)
              · replace hr8 := ite_t hr8 hc7
                refine WL_guard_skip rfl rfl (by simp) rfl ?_
                refine WL_guard_skip rfl rfl (by simp) rfl ?_
                refine WL_guard_skip rfl rfl (by simp) rfl ?_
                refine WL_pick_t rfl rfl rfl ?_
                refine WL_move rfl rfl ?_
                refine WL_guard_skip rfl rfl (by simp) rfl ?_
                refine WL_guard_skip rfl rfl (by simp) rfl ?_
                refine WL_guard_skip rfl rfl (by simp) rfl ?_
                refine WL_pick_t rfl rfl rfl ?_
                refine WL_nil ?_
                have hq9 := Option.some.inj hr8
                subst hq9
                have hC11 : Ctx [] w0 _ [Item.own v4 (x5.2 : (List Str)), Item.own v7 (x7.1 : (List Str)), Item.own v1 (x1.1 : (List Str))] := hC10.front 1 rfl
                have hC12 : Ctx [] w0 _ [Item.own v4 (x5.2 : (List Str))] := hC11.headN 1
                refine nrm_sub (l' := [(6, v4), (9, (.int .i64 x5.1)), (73, (.bool true))]) ⟨rfl, rfl, rfl, trivial⟩ ?_
                exact ⟨true, rfl, rfl, (Keep.of hB8).below, hC12⟩
              · replace hr8 := ite_f hr8 hc7
                refine WL_guard rfl rfl ?_
                refine WL_move rfl rfl ?_
                refine WL_guard rfl rfl ?_
                refine WL_move rfl rfl ?_
                refine WL_guard rfl rfl ?_
                refine WL_str_neq rfl rfl rfl ?_
                refine WL_pick_f rfl rfl rfl ?_
                refine WL_move rfl rfl ?_
                refine WL_fork (fun hc8 => ?_) (fun hc8 => ?_)
                · replace hr8 := ite_t hr8 hc8
                  refine WL_guard_skip rfl rfl (by simp) rfl ?_
                  refine WL_guard_skip rfl rfl (by simp) rfl ?_
                  refine WL_guard_skip rfl rfl (by simp) rfl ?_
                  refine WL_pick_t rfl rfl rfl ?_
                  refine WL_nil ?_
                  have hq10 := Option.some.inj hr8
                  subst hq10
                  have hC13 : Ctx [] w0 _ [Item.own v4 (x5.2 : (List Str)), Item.own v7 (x7.1 : (List Str)), Item.own v1 (x1.1 : (List Str))] := hC10.front 1 rfl
                  have hC14 : Ctx [] w0 _ [Item.own v4 (x5.2 : (List Str))] := hC13.headN 1
                  refine nrm_sub (l' := [(6, v4), (9, (.int .i64 x5.1)), (73, (.bool true))]) ⟨rfl, rfl, rfl, trivial⟩ ?_
                  exact ⟨true, rfl, rfl, (Keep.of hB8).below, hC14⟩
                · replace hr8 := ite_f hr8 hc8
                  refine WL_guard rfl rfl ?_
                  refine WL_move rfl rfl ?_
                  refine WL_guard rfl rfl ?_
                  refine WL_move rfl rfl ?_
                  refine WL_guard rfl rfl ?_
                  refine WL_bool_neq Try.underlying4 rfl rfl rfl ?_
                  refine WL_pick_f rfl rfl rfl ?_
                  refine WL_nil ?_
                  have hq11 := Option.some.inj hr8
                  subst hq11
                  have hC15 : Ctx [] w0 _ [Item.own v4 (x5.2 : (List Str)), Item.own v7 (x7.1 : (List Str)), Item.own v1 (x1.1 : (List Str))] := hC10.front 1 rfl
                  have hC16 : Ctx [] w0 _ [Item.own v4 (x5.2 : (List Str))] := hC15.headN 1
                  refine nrm_sub (l' := [(6, v4), (9, (.int .i64 x5.1)), (73, (.bool (!decide (x7.2.2 = x1.2.2))))]) ⟨rfl, rfl, rfl, trivial⟩ ?_
                  exact ⟨(!decide (x7.2.2 = x1.2.2)), rfl, rfl, (Keep.of hB8).below, hC16⟩
            · rintro _ w8 ⟨x8, rfl, rfl, hB7, hC9⟩
              try dsimp only at hF
              refine W_cond rfl (fun hc9 => ?_) (fun hc9 => ?_)
              · replace hF := ite_t hF hc9
                refine W_seq_reg ?_
                refine WL_assign rfl rfl ?_
                refine WL_nil ?_
                refine W_ret ?_
                refine nrm_ret ?_
                have hq12 := Option.some.inj hF
                subst hq12
                refine fn_ret1 rfl rfl ?_
                exact ⟨_, rfl, bool_res hC9 _⟩
              · replace hF := ite_f hF hc9
                refine W_skip ?_
                refine nrm_normal ?_
                refine W_seq_reg ?_
                refine WL_assign rfl rfl ?_
                refine WL_nil ?_
                refine W_seq_reg ?_
                refine WL_move rfl rfl ?_
                refine WL_move rfl rfl ?_
                obtain ⟨x10, hr10, hF⟩ := bind_some hF
                refine WL_call Try.call46 rfl rfl (c_Q_heldStringS x5.2 v4 ((hC9.ro 0 rfl).now (Keep.refl _ _)) 1 x10 hr10) ?_
                intro _ w10 hv13
                obtain ⟨rfl, hB9⟩ := res_int hv13
                have hC17 := hC9.grow hB9
                refine WL_assign rfl rfl ?_
                refine WL_nil ?_
                refine W_seq ?_
                refine W_seq_reg ?_
                refine WL_move rfl rfl ?_
                refine WL_lss rfl rfl rfl ?_
                refine WL_nil ?_
                refine W_cond rfl (fun hc10 => ?_) (fun hc10 => ?_)
                · replace hF := ite_t hF hc10
                  refine W_seq_reg ?_
                  refine WL_assign rfl rfl ?_
                  refine WL_nil ?_
                  refine W_ret ?_
                  refine nrm_ret ?_
                  have hq13 := Option.some.inj hF
                  subst hq13
                  refine fn_ret1 rfl rfl ?_
                  exact ⟨_, rfl, bool_res hC17 _⟩
                · replace hF := ite_f hF hc10
                  refine W_skip ?_
                  refine nrm_normal ?_
                  refine W_seq ?_
                  refine W_seq_reg ?_
                  refine WL_move rfl rfl ?_
                  refine WL_move rfl rfl ?_
                  refine WL_neq rfl rfl rfl ?_
                  refine WL_nil ?_
                  refine W_cond rfl (fun hc11 => ?_) (fun hc11 => ?_)
                  · replace hF := ite_t hF hc11
                    refine W_seq_reg ?_
                    refine WL_assign rfl rfl ?_
                    refine WL_nil ?_
                    refine W_ret ?_
                    refine nrm_ret ?_
                    have hq14 := Option.some.inj hF
                    subst hq14
                    refine fn_ret1 rfl rfl ?_
                    exact ⟨_, rfl, bool_res hC17 _⟩
                  · replace hF := ite_f hF hc11
                    refine W_skip ?_
                    refine nrm_normal ?_
                    refine W_seq_reg ?_
                    refine WL_assign rfl rfl ?_
                    refine WL_nil ?_
                    refine W_ret ?_
                    have hq15 := Option.some.inj hF
                    subst hq15
                    refine fn_ret1 rfl rfl ?_
                    exact ⟨_, rfl, bool_res hC17 _⟩

theorem c_S_FrameOf {w0 : World} (a1 : Str) (rr : Str) (hF : S.FrameOf a1 = some rr) :
    Calls Try.prog 19 [(sv a1)].toArray w0 fun e w' => ∃ v, e = .returned v ∧ Res w0 rr v w' := by
  refine calls_of_W Try.func19 rfl rfl ?_
  have hC0 := Ctx.start w0
  unfold S.FrameOf at hF
  refine W_seq_reg ?_
  refine WL_assign rfl rfl ?_
  refine WL_nil ?_
  refine W_seq ?_
  refine W_seq_reg ?_
  refine WL_move rfl rfl ?_
  refine WL_len_str Try.underlying9 rfl rfl ?_
  refine WL_gtr rfl rfl rfl ?_
  refine WL_nil ?_
  refine W_cond rfl (fun hc1 => ?_) (fun hc1 => ?_)
  · replace hF := ite_t hF hc1
    refine W_seq_reg ?_
    refine WL_assign rfl rfl ?_
    refine WL_nil ?_
    refine W_ret ?_
    refine nrm_ret ?_
    have hq1 := Option.some.inj hF
    subst hq1
    refine fn_ret1 rfl rfl ?_
    exact ⟨_, rfl, str_res hC0 _⟩
  · replace hF := ite_f hF hc1
    refine W_skip ?_
    refine nrm_normal ?_
    refine W_seq_reg ?_
    refine WL_move rfl rfl ?_
    refine WL_len_str Try.underlying9 rfl rfl ?_
    obtain ⟨x1, hr1, hF⟩ := bind_some hF
    refine WL_call Try.call75 rfl rfl (c_S_EncodeVarint (List.length a1 : Int) x1 hr1) ?_
    intro _ w1 hv1
    obtain ⟨rfl, hB1⟩ := res_str hv1
    have hC1 := hC0.grow hB1
    refine WL_move rfl rfl ?_
    obtain ⟨x2, hx1, hF⟩ := bind_some hF
    refine WL_str_add hx1 rfl rfl rfl ?_
    refine WL_move rfl rfl ?_
    obtain ⟨x3, hr2, hF⟩ := bind_some hF
    refine WL_call Try.call15 rfl rfl (c_S_CheckByte a1 x3 hr2) ?_
    intro _ w2 hv2
    obtain ⟨rfl, hB2⟩ := res_int hv2
    have hC2 := hC1.grow hB2
    obtain ⟨x4, hr3, hF⟩ := bind_some hF
    refine WL_call Try.call76 rfl rfl (c_S_EncodeFixed x3 1 x4 hr3) ?_
    intro _ w3 hv3
    obtain ⟨rfl, hB3⟩ := res_str hv3
    have hC3 := hC2.grow hB3
    obtain ⟨x5, hx2, hF⟩ := bind_some hF
    refine WL_str_add hx2 rfl rfl rfl ?_
    refine WL_assign rfl rfl ?_
    refine WL_nil ?_
    refine W_ret ?_
    have hq2 := Option.some.inj hF
    subst hq2
    refine fn_ret1 rfl rfl ?_
    exact ⟨_, rfl, str_res hC3 _⟩

theorem c_M_within {w0 : World} (a1 : Int) (a2 : Int) (a3 : Int) (rr : Bool) (hF : M.within a1 a2 a3 = some rr) :
    Calls Try.prog 84 [(.int .i64 a1), (.int .i64 a2), (.int .i64 a3)].toArray w0 fun e w' => ∃ v, e = .returned v ∧ Res w0 rr v w' := by
  refine calls_of_W Try.func84 rfl rfl ?_
  have hC0 := Ctx.start w0
  unfold M.within at hF
  refine W_seq_reg ?_
  refine WL_assign rfl rfl ?_
  refine WL_nil ?_
  obtain ⟨r1, hr1, hF⟩ := bind_some hF
  refine W_cut (fun l w => ∃ x1 : Bool, x1 = r1 ∧ l = [(6, (.bool x1))] ∧ Below w0.heap.size w0 w ∧ Ctx [] w0 w []) ?_ ?_
  · refine W_reg ?_
    refine WL_move rfl rfl ?_
    refine WL_move rfl rfl ?_
    refine WL_geq rfl rfl rfl ?_
    refine WL_move rfl rfl ?_
    refine WL_fork (fun hc1 => ?_) (fun hc1 => ?_)
    · replace hr1 := ite_t hr1 hc1
      refine WL_guard rfl rfl ?_
      refine WL_move rfl rfl ?_
      refine WL_guard rfl rfl ?_
      refine WL_move rfl rfl ?_
      refine WL_guard rfl rfl ?_
      refine WL_leq rfl rfl rfl ?_
      refine WL_pick_t rfl rfl rfl ?_
      refine WL_assign rfl rfl ?_
      refine WL_nil ?_
      have hq1 := Option.some.inj hr1
      subst hq1
      refine nrm_sub (l' := [(6, (.bool (decide (a1 ≤ a3))))]) ⟨rfl, trivial⟩ ?_
      exact ⟨(decide (a1 ≤ a3)), rfl, rfl, (Below.refl _ _), hC0⟩
    · replace hr1 := ite_f hr1 hc1
      refine WL_guard_skip rfl rfl (by simp) rfl ?_
      refine WL_guard_skip rfl rfl (by simp) rfl ?_
      refine WL_guard_skip rfl rfl (by simp) rfl ?_
      refine WL_pick_f rfl rfl rfl ?_
      refine WL_assign rfl rfl ?_
      refine WL_nil ?_
      have hq2 := Option.some.inj hr1
      subst hq2
      refine nrm_sub (l' := [(6, (.bool false))]) ⟨rfl, trivial⟩ ?_
      exact ⟨false, rfl, rfl, (Below.refl _ _), hC0⟩
  · rintro _ w1 ⟨x1, rfl, rfl, hB1, hC1⟩
    try dsimp only at hF
    refine W_ret ?_
    have hq3 := Option.some.inj hF
    subst hq3
    refine fn_ret1 rfl rfl ?_
    exact ⟨_, rfl, bool_res hC1 _⟩

theorem c_M_EncodeVarint {w0 : World} (a1 : Int) (rr : Str) (hF : M.EncodeVarint a1 = some rr) :
    Calls Try.prog 77 [(.int .i64 a1)].toArray w0 fun e w' => ∃ v, e = .returned v ∧ Res w0 rr v w' := by
  refine calls_of_W Try.func77 rfl rfl ?_
  have hC0 := Ctx.start w0
  unfold M.EncodeVarint at hF
  refine W_seq_reg ?_
  refine WL_assign rfl rfl ?_
  refine WL_nil ?_
  refine W_seq ?_
  refine W_seq_reg ?_
  refine WL_move rfl rfl ?_
  obtain ⟨x1, hr1, hF⟩ := bind_some hF
  refine WL_call Try.call84 rfl rfl (c_M_within a1 0 562949953421311 x1 hr1) ?_
  intro _ w1 hv1
  obtain ⟨rfl, hB1⟩ := res_bool hv1
  have hC1 := hC0.grow hB1
  refine WL_not rfl rfl ?_
  refine WL_nil ?_
  refine W_cond rfl (fun hc1 => ?_) (fun hc1 => ?_)
  · replace hF := ite_t hF hc1
    refine W_seq_reg ?_
    refine WL_assign rfl rfl ?_
    refine WL_nil ?_
    refine W_ret ?_
    refine nrm_ret ?_
    have hq1 := Option.some.inj hF
    subst hq1
    refine fn_ret1 rfl rfl ?_
    exact ⟨_, rfl, str_res hC1 _⟩
  · replace hF := ite_f hF hc1
    refine W_skip ?_
    refine nrm_normal ?_
    refine W_seq_reg ?_
    refine WL_buildSlice (vs := []) hC1 Try.underlying71 ty5 rfl rfl rfl rfl (by simp) rfl rfl (fun b1 w2 hC2 hB2 => ?_)
    have hC3 := hC2.row0 (α := UInt8)
    have hC4 := hC3.front 1 rfl
    dsimp only [List.eraseIdx, List.cons_append, List.nil_append, List.append_nil] at hC4
    have hC5 : Ctx [] w0 w2 (Item.own (.slice (some ⟨b1, 0, none⟩) 0 0) (([] : List UInt8) : List UInt8) :: []) := hC4.rowOwn (by simp [maxLen])
    refine WL_assign rfl rfl ?_
    refine WL_nil ?_
    refine W_seq ?_
    obtain ⟨r1, hr2, hF⟩ := bind_some hF
    refine W_norm (fun l w => ∃ x4 : Int, ∃ v2 : Value, ∃ x5 : (List UInt8), (x4, x5) = r1 ∧ l = [(0, (.int .i64 x4)), (3, v2)] ∧ Ctx [] w0 w [Item.own v2 (x5 : (List UInt8))]) ?_ ?_
    · refine W_block ?_
      refine W.sub (l' := [(0, (.int .i64 a1)), (3, (.slice (some ⟨b1, 0, none⟩) 0 0))]) ?_ ⟨rfl, rfl, trivial⟩
      refine W_loop (fun k l w => ∃ x2 : Int, ∃ v1 : Value, ∃ x3 : (List UInt8), l = [(0, (.int .i64 x2)), (3, v1)] ∧ Ctx [] w0 w [Item.own v1 (x3 : (List UInt8))] ∧ M.EncodeVarint_l1 k x2 x3 = some r1) FUEL ⟨a1, (.slice (some ⟨b1, 0, none⟩) 0 0), ([] : List UInt8), rfl, hC5, hr2⟩ ?_
      clear hr2
      rintro k1 _ w3 ⟨x2, v1, x3, rfl, hC6, hL1⟩
      cases k1 with
      | zero => rw [M.EncodeVarint_l1] at hL1; cases hL1
      | succ k1 =>
        rw [M.EncodeVarint_l1] at hL1
        refine W_seq ?_
        refine W_seq_reg ?_
        refine WL_move rfl rfl ?_
        refine WL_geq rfl rfl rfl ?_
        refine WL_nil ?_
        refine W_cond rfl (fun hc2 => ?_) (fun hc2 => ?_)
        · replace hL1 := ite_t hL1 hc2
          refine W_skip ?_
          refine nrm_normal ?_
          refine W_block ?_
          refine W_seq_reg ?_
          refine WL_move rfl rfl ?_
          refine WL_move rfl rfl ?_
          refine WL_conv_u8 Try.underlying3 Try.underlying5 rfl rfl ?_
          refine WL_bor8 rfl rfl rfl ?_
          refine WL_buildSlice (vs := [(.int .u8 (bor8 (w8 x2) 128))]) hC6 Try.underlying71 ty5 rfl rfl rfl rfl (by intro v hv; simp only [List.mem_cons, List.not_mem_nil, or_false] at hv; rcases hv with rfl <;> rfl) rfl rfl (fun b2 w4 hC7 hB4 => ?_)
          have hC8 := hC7.row0 (α := UInt8)
          have hC9 := hC8.triv (u8_of (e := bor8 (w8 x2) 128) (bor8_range _ _))
          have hC10 := hC9.row1
          have hC11 := hC10.front 1 rfl
          dsimp only [List.eraseIdx, List.cons_append, List.nil_append, List.append_nil] at hC11
          have hC12 : Ctx [] w0 w4 (Item.own (.slice (some ⟨b2, 0, none⟩) 1 1) ([(UInt8.ofNat (Int.toNat (bor8 (w8 x2) 128)))] : List UInt8) :: [Item.own v1 (x3 : (List UInt8))]) := hC11.rowOwn (by simp [maxLen])
          obtain ⟨x6, hx1, hL1⟩ := bind_some hL1
          refine WL_append_flat (α := UInt8) hC12 1 rfl (hC12.ro 0 rfl) (Keep.refl _ _) Try.underlying71 ty5 rfl hx1 rfl rfl rfl (fun v3 w5 hC13 => ?_)
          try dsimp only [List.set] at hC13
          refine WL_assign rfl rfl ?_
          refine WL_nil ?_
          refine W_reg ?_
          refine WL_move rfl rfl ?_
          refine WL_shr (by decide) rfl rfl rfl ?_
          refine WL_assign rfl rfl ?_
          refine WL_nil ?_
          refine blk_normal ?_
          have hC14 : Ctx [] w0 _ [Item.own v3 (x6 : (List UInt8)), Item.own (.slice (some ⟨b2, 0, none⟩) 1 1) ([(UInt8.ofNat (Int.toNat (bor8 (w8 x2) 128)))] : (List UInt8))] := hC13.front 1 rfl
          have hC15 : Ctx [] w0 _ [Item.own v3 (x6 : (List UInt8))] := hC14.headN 1
          refine nrm_sub (l' := [(0, (.int .i64 (shr x2 7))), (3, v3)]) ⟨rfl, rfl, trivial⟩ ?_
          exact ⟨k1, Nat.lt_succ_self _, shr x2 7, v3, x6, rfl, hC15, hL1⟩
        · replace hL1 := ite_f hL1 hc2
          refine W_exit ?_
          refine nrm_exit ?_
          refine nrm_exit ?_
          refine blk_exit ?_
          have hq2 := Option.some.inj hL1
          subst hq2
          refine nrm_sub (l' := [(0, (.int .i64 x2)), (3, v1)]) ⟨rfl, rfl, trivial⟩ ?_
          exact ⟨x2, v1, x3, rfl, rfl, hC6⟩
    · rintro l2 _ w6 hs2 ⟨x4, v2, x5, rfl, rfl, hC16⟩
      try dsimp only at hF
      refine nrm_sub' hs2 ?_
      clear hs2
      refine W_seq_reg ?_
      refine WL_move rfl rfl ?_
      refine WL_move rfl rfl ?_
      refine WL_conv_u8 Try.underlying3 Try.underlying5 rfl rfl ?_
      refine WL_buildSlice (vs := [(.int .u8 (w8 x4))]) hC16 Try.underlying71 ty5 rfl rfl rfl rfl (by intro v hv; simp only [List.mem_cons, List.not_mem_nil, or_false] at hv; rcases hv with rfl <;> rfl) rfl rfl (fun b3 w7 hC17 hB6 => ?_)
      have hC18 := hC17.row0 (α := UInt8)
      have hC19 := hC18.triv (u8_val x4)
      have hC20 := hC19.row1
      have hC21 := hC20.front 1 rfl
      dsimp only [List.eraseIdx, List.cons_append, List.nil_append, List.append_nil] at hC21
      have hC22 : Ctx [] w0 w7 (Item.own (.slice (some ⟨b3, 0, none⟩) 1 1) ([(u8 x4)] : List UInt8) :: [Item.own v2 (x5 : (List UInt8))]) := hC21.rowOwn (by simp [maxLen])
      obtain ⟨x7, hx2, hF⟩ := bind_some hF
      refine WL_append_flat (α := UInt8) hC22 1 rfl (hC22.ro 0 rfl) (Keep.refl _ _) Try.underlying71 ty5 rfl hx2 rfl rfl rfl (fun v4 w8 hC23 => ?_)
      try dsimp only [List.set] at hC23
      refine WL_conv_bytes Try.underlying71 Try.underlying5 Try.underlying9 (hC23.ro 1 rfl) (Keep.refl _ _) rfl rfl ?_
      refine WL_assign rfl rfl ?_
      refine WL_nil ?_
      refine W_ret ?_
      have hq3 := Option.some.inj hF
      subst hq3
      refine fn_ret1 rfl rfl ?_
      exact ⟨_, rfl, str_res hC23 _⟩

theorem c_M_FrameOf {w0 : World} (a1 : Str) (rr : Str) (hF : M.FrameOf a1 = some rr) :
    Calls Try.prog 20 [(sv a1)].toArray w0 fun e w' => ∃ v, e = .returned v ∧ Res w0 rr v w' := by
  refine calls_of_W Try.func20 rfl rfl ?_
  have hC0 := Ctx.start w0
  unfold M.FrameOf at hF
  refine W_seq_reg ?_
  refine WL_assign rfl rfl ?_
  refine WL_nil ?_
  refine W_seq ?_
  refine W_seq_reg ?_
  refine WL_move rfl rfl ?_
  refine WL_len_str Try.underlying9 rfl rfl ?_
  refine WL_gtr rfl rfl rfl ?_
  refine WL_nil ?_
  refine W_cond rfl (fun hc1 => ?_) (fun hc1 => ?_)
  · replace hF := ite_t hF hc1
    refine W_seq_reg ?_
    refine WL_assign rfl rfl ?_
    refine WL_nil ?_
    refine W_ret ?_
    refine nrm_ret ?_
    have hq1 := Option.some.inj hF
    subst hq1
    refine fn_ret1 rfl rfl ?_
    exact ⟨_, rfl, str_res hC0 _⟩
  · replace hF := ite_f hF hc1
    refine W_skip ?_
    refine nrm_normal ?_
    refine W_seq_reg ?_
    refine WL_move rfl rfl ?_
    refine WL_len_str Try.underlying9 rfl rfl ?_
    obtain ⟨x1, hr1, hF⟩ := bind_some hF
    refine WL_call Try.call77 rfl rfl (c_M_EncodeVarint (List.length a1 : Int) x1 hr1) ?_
    intro _ w1 hv1
    obtain ⟨rfl, hB1⟩ := res_str hv1
    have hC1 := hC0.grow hB1
    refine WL_move rfl rfl ?_
    obtain ⟨x2, hx1, hF⟩ := bind_some hF
    refine WL_str_add hx1 rfl rfl rfl ?_
    refine WL_move rfl rfl ?_
    obtain ⟨x3, hr2, hF⟩ := bind_some hF
    refine WL_call Try.call16 rfl rfl (c_M_CheckByte a1 x3 hr2) ?_
    intro _ w2 hv2
    obtain ⟨rfl, hB2⟩ := res_int hv2
    have hC2 := hC1.grow hB2
    refine WL_conv_u8 Try.underlying3 Try.underlying5 rfl rfl ?_
    refine WL_buildSlice (vs := [(.int .u8 (w8 x3))]) hC2 Try.underlying71 ty5 rfl rfl rfl rfl (by intro v hv; simp only [List.mem_cons, List.not_mem_nil, or_false] at hv; rcases hv with rfl <;> rfl) rfl rfl (fun b1 w3 hC3 hB3 => ?_)
    have hC4 := hC3.row0 (α := UInt8)
    have hC5 := hC4.triv (u8_val x3)
    have hC6 := hC5.row1
    have hC7 := hC6.front 1 rfl
    dsimp only [List.eraseIdx, List.cons_append, List.nil_append, List.append_nil] at hC7
    have hC8 : Ctx [] w0 w3 (Item.own (.slice (some ⟨b1, 0, none⟩) 1 1) ([(u8 x3)] : List UInt8) :: []) := hC7.rowOwn (by simp [maxLen])
    refine WL_conv_bytes Try.underlying71 Try.underlying5 Try.underlying9 (hC8.ro 0 rfl) (Keep.refl _ _) rfl rfl ?_
    obtain ⟨x4, hx2, hF⟩ := bind_some hF
    refine WL_str_add hx2 rfl rfl rfl ?_
    refine WL_assign rfl rfl ?_
    refine WL_nil ?_
    refine W_ret ?_
    have hq2 := Option.some.inj hF
    subst hq2
    refine fn_ret1 rfl rfl ?_
    exact ⟨_, rfl, str_res hC8 _⟩

theorem c_Q_FnExactFrameOf {w0 : World} (a1 : Str) (rr : Bool) (hF : Q.FnExactFrameOf a1 = some rr) :
    Calls Try.prog 5 [(sv a1)].toArray w0 fun e w' => ∃ v, e = .returned v ∧ Res w0 rr v w' := by
  refine calls_of_W Try.func5 rfl rfl ?_
  have hC0 := Ctx.start w0
  unfold Q.FnExactFrameOf at hF
  refine W_seq_reg ?_
  refine WL_assign rfl rfl ?_
  refine WL_nil ?_
  refine W_seq ?_
  refine W_seq_reg ?_
  refine WL_move rfl rfl ?_
  refine WL_len_str Try.underlying9 rfl rfl ?_
  refine WL_gtr rfl rfl rfl ?_
  refine WL_nil ?_
  refine W_cond rfl (fun hc1 => ?_) (fun hc1 => ?_)
  · replace hF := ite_t hF hc1
    refine W_seq_reg ?_
    refine WL_assign rfl rfl ?_
    refine WL_nil ?_
    refine W_ret ?_
    refine nrm_ret ?_
    have hq1 := Option.some.inj hF
    subst hq1
    refine fn_ret1 rfl rfl ?_
    exact ⟨_, rfl, bool_res hC0 _⟩
  · replace hF := ite_f hF hc1
    refine W_skip ?_
    refine nrm_normal ?_
    refine W_seq_reg ?_
    refine WL_move rfl rfl ?_
    obtain ⟨x1, hr1, hF⟩ := bind_some hF
    refine WL_call Try.call19 rfl rfl (c_S_FrameOf a1 x1 hr1) ?_
    intro _ w1 hv1
    obtain ⟨rfl, hB1⟩ := res_str hv1
    have hC1 := hC0.grow hB1
    refine WL_assign rfl rfl ?_
    refine WL_nil ?_
    refine W_seq_reg ?_
    refine WL_move rfl rfl ?_
    obtain ⟨x2, hr2, hF⟩ := bind_some hF
    refine WL_call Try.call20 rfl rfl (c_M_FrameOf a1 x2 hr2) ?_
    intro _ w2 hv2
    obtain ⟨rfl, hB2⟩ := res_str hv2
    have hC2 := hC1.grow hB2
    refine WL_assign rfl rfl ?_
    refine WL_nil ?_
    refine W_seq ?_
    refine W_seq_reg ?_
    refine WL_move rfl rfl ?_
    refine WL_move rfl rfl ?_
    refine WL_str_neq rfl rfl rfl ?_
    refine WL_nil ?_
    refine W_cond rfl (fun hc2 => ?_) (fun hc2 => ?_)
    · replace hF := ite_t hF hc2
      refine W_seq_reg ?_
      refine WL_assign rfl rfl ?_
      refine WL_nil ?_
      refine W_ret ?_
      refine nrm_ret ?_
      have hq2 := Option.some.inj hF
      subst hq2
      refine fn_ret1 rfl rfl ?_
      exact ⟨_, rfl, bool_res hC2 _⟩
    · replace hF := ite_f hF hc2
      refine W_skip ?_
      refine nrm_normal ?_
      refine W_seq_reg ?_
      refine WL_assign rfl rfl ?_
      refine WL_nil ?_
      refine W_ret ?_
      have hq3 := Option.some.inj hF
      subst hq3
      refine fn_ret1 rfl rfl ?_
      exact ⟨_, rfl, bool_res hC2 _⟩

end Go.Gx.Px
