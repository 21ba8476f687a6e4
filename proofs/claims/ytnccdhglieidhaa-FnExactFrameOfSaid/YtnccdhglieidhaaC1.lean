/- The contracts of the Go functions against the pure functions, printed by program. Conditions: each says them. -/
import Derived.Test.YtnccdhglieidhaaTy
import Derived.Test.YtnccdhglieidhaaPure
set_option linter.unusedVariables false
set_option linter.unusedSimpArgs false
set_option maxRecDepth 100000
namespace Go.Gx.Px
open Go.Proofs Go.RowKit

theorem c_S_CheckByte {w0 : World} (a1 : Str) (rr : Int) (hF : S.CheckByte a1 = some rr) :
    Calls Try.prog 15 [(sv a1)].toArray w0 fun e w' => ∃ v, e = .returned v ∧ Res w0 rr v w' := by
  refine calls_of_W Try.func15 rfl rfl ?_
  have hC0 := Ctx.start w0
  unfold S.CheckByte at hF
  refine W_seq_reg ?_
  refine WL_assign rfl rfl ?_
  refine WL_nil ?_
  refine W_seq_reg ?_
  refine WL_assign rfl rfl ?_
  refine WL_nil ?_
  refine W_seq ?_
  refine W_seq_reg ?_
  refine WL_assign rfl rfl ?_
  refine WL_nil ?_
  obtain ⟨r1, hr1, hF⟩ := bind_some hF
  refine W_norm (fun l w => ∃ x3 : Int, x3 = r1 ∧ l = [(3, (.int .i64 x3))] ∧ Below w0.heap.size w0 w ∧ Ctx [] w0 w []) ?_ ?_
  · refine W_block ?_
    refine W.sub (l' := [(0, (sv a1)), (3, (.int .i64 7)), (4, (.int .i64 0))]) ?_ ⟨rfl, rfl, rfl, trivial⟩
    refine W_loop (fun k l w => ∃ x1 : Int, ∃ x2 : Int, l = [(0, (sv a1)), (3, (.int .i64 x1)), (4, (.int .i64 x2))] ∧ Below w0.heap.size w0 w ∧ Ctx [] w0 w [] ∧ S.CheckByte_l1 a1 k x1 x2 = some r1) FUEL ⟨7, 0, rfl, (Below.refl _ _), hC0, hr1⟩ ?_
    clear hr1
    rintro k1 _ w1 ⟨x1, x2, rfl, hB1, hC1, hL1⟩
    cases k1 with
    | zero => rw [S.CheckByte_l1] at hL1; cases hL1
    | succ k1 =>
      rw [S.CheckByte_l1] at hL1
      refine W_seq ?_
      refine W_seq_reg ?_
      refine WL_move rfl rfl ?_
      refine WL_move rfl rfl ?_
      refine WL_len_str Try.underlying9 rfl rfl ?_
      refine WL_lss rfl rfl rfl ?_
      refine WL_nil ?_
      refine W_cond rfl (fun hc1 => ?_) (fun hc1 => ?_)
      · replace hL1 := ite_t hL1 hc1
        refine W_skip ?_
        refine nrm_normal ?_
        refine W_seq ?_
        refine W_block ?_
        refine W_reg ?_
        refine WL_move rfl rfl ?_
        refine WL_mul rfl rfl rfl ?_
        refine WL_move rfl rfl ?_
        refine WL_move rfl rfl ?_
        obtain ⟨x4, hx1, hL1⟩ := bind_some hL1
        refine WL_index_str Try.underlying9 hx1 rfl rfl rfl ?_
        refine WL_conv_i64 Try.underlying5 Try.underlying3 rfl rfl ?_
        refine WL_add rfl rfl rfl ?_
        refine WL_rem (by decide) rfl rfl rfl ?_
        refine WL_assign rfl rfl ?_
        refine WL_nil ?_
        refine blk_normal ?_
        refine nrm_normal ?_
        refine W_reg ?_
        refine WL_move rfl rfl ?_
        refine WL_add rfl rfl rfl ?_
        refine WL_assign rfl rfl ?_
        refine WL_nil ?_
        refine nrm_sub (l' := [(0, (sv a1)), (3, (.int .i64 ((w64 ((w64 (x1 * 31)) + (w64 (UInt8.toNat x4 : Int)))).tmod 251))), (4, (.int .i64 (w64 (x2 + 1))))]) ⟨rfl, rfl, rfl, trivial⟩ ?_
        exact ⟨k1, Nat.lt_succ_self _, (w64 ((w64 (x1 * 31)) + (w64 (UInt8.toNat x4 : Int)))).tmod 251, w64 (x2 + 1), rfl, (Keep.of hB1).below, hC1, hL1⟩
      · replace hL1 := ite_f hL1 hc1
        refine W_exit ?_
        refine nrm_exit ?_
        refine nrm_exit ?_
        refine blk_exit ?_
        have hq1 := Option.some.inj hL1
        subst hq1
        refine nrm_sub (l' := [(3, (.int .i64 x1))]) ⟨rfl, trivial⟩ ?_
        exact ⟨x1, rfl, rfl, (Keep.of hB1).below, hC1⟩
  · rintro l2 _ w2 hs2 ⟨x3, rfl, rfl, hB2, hC2⟩
    try dsimp only at hF
    refine nrm_sub' hs2 ?_
    clear hs2
    refine W_seq_reg ?_
    refine WL_move rfl rfl ?_
    refine WL_assign rfl rfl ?_
    refine WL_nil ?_
    refine W_ret ?_
    have hq2 := Option.some.inj hF
    subst hq2
    refine fn_ret1 rfl rfl ?_
    exact ⟨_, rfl, int_res hC2 _⟩

theorem c_S_l1In {w0 : World} (a1 : Int) (a2 : Int) (a3 : Int) (rr : Bool) (hF : S.l1In a1 a2 a3 = some rr) :
    Calls Try.prog 79 [(.int .i64 a1), (.int .i64 a2), (.int .i64 a3)].toArray w0 fun e w' => ∃ v, e = .returned v ∧ Res w0 rr v w' := by
  refine calls_of_W Try.func79 rfl rfl ?_
  have hC0 := Ctx.start w0
  unfold S.l1In at hF
  refine W_seq_reg ?_
  refine WL_assign rfl rfl ?_
  refine WL_nil ?_
  obtain ⟨r1, hr1, hF⟩ := bind_some hF
  refine W_cut (fun l w => ∃ x1 : Bool, x1 = r1 ∧ l = [(6, (.bool x1))] ∧ Below w0.heap.size w0 w ∧ Ctx [] w0 w []) ?_ ?_
  · refine W_reg ?_
    refine WL_move rfl rfl ?_
    refine WL_move rfl rfl ?_
    refine WL_geq rfl rfl rfl ?_
    refine WL_move rfl rfl ?_
    refine WL_fork (fun hc1 => ?_) (fun hc1 => ?_)
    · replace hr1 := ite_t hr1 hc1
      refine WL_guard rfl rfl ?_
      refine WL_move rfl rfl ?_
      refine WL_guard rfl rfl ?_
      refine WL_move rfl rfl ?_
      refine WL_guard rfl rfl ?_
      refine WL_leq rfl rfl rfl ?_
      refine WL_pick_t rfl rfl rfl ?_
      refine WL_assign rfl rfl ?_
      refine WL_nil ?_
      have hq1 := Option.some.inj hr1
      subst hq1
      refine nrm_sub (l' := [(6, (.bool (decide (a1 ≤ a3))))]) ⟨rfl, trivial⟩ ?_
      exact ⟨(decide (a1 ≤ a3)), rfl, rfl, (Below.refl _ _), hC0⟩
    · replace hr1 := ite_f hr1 hc1
      refine WL_guard_skip rfl rfl (by simp) rfl ?_
      refine WL_guard_skip rfl rfl (by simp) rfl ?_
      refine WL_guard_skip rfl rfl (by simp) rfl ?_
      refine WL_pick_f rfl rfl rfl ?_
      refine WL_assign rfl rfl ?_
      refine WL_nil ?_
      have hq2 := Option.some.inj hr1
      subst hq2
      refine nrm_sub (l' := [(6, (.bool false))]) ⟨rfl, trivial⟩ ?_
      exact ⟨false, rfl, rfl, (Below.refl _ _), hC0⟩
  · rintro _ w1 ⟨x1, rfl, rfl, hB1, hC1⟩
    try dsimp only at hF
    refine W_ret ?_
    have hq3 := Option.some.inj hF
    subst hq3
    refine fn_ret1 rfl rfl ?_
    exact ⟨_, rfl, bool_res hC1 _⟩

theorem c_S_EncodeVarint {w0 : World} (a1 : Int) (rr : Str) (hF : S.EncodeVarint a1 = some rr) :
    Calls Try.prog 75 [(.int .i64 a1)].toArray w0 fun e w' => ∃ v, e = .returned v ∧ Res w0 rr v w' := by
  refine calls_of_W Try.func75 rfl rfl ?_
  have hC0 := Ctx.start w0
  unfold S.EncodeVarint at hF
  refine W_seq_reg ?_
  refine WL_assign rfl rfl ?_
  refine WL_nil ?_
  refine W_seq ?_
  refine W_seq_reg ?_
  refine WL_move rfl rfl ?_
  obtain ⟨x1, hr1, hF⟩ := bind_some hF
  refine WL_call Try.call79 rfl rfl (c_S_l1In a1 0 562949953421311 x1 hr1) ?_
  intro _ w1 hv1
  obtain ⟨rfl, hB1⟩ := res_bool hv1
  have hC1 := hC0.grow hB1
  refine WL_not rfl rfl ?_
  refine WL_nil ?_
  refine W_cond rfl (fun hc1 => ?_) (fun hc1 => ?_)
  · replace hF := ite_t hF hc1
    refine W_seq_reg ?_
    refine WL_assign rfl rfl ?_
    refine WL_nil ?_
    refine W_ret ?_
    refine nrm_ret ?_
    have hq1 := Option.some.inj hF
    subst hq1
    refine fn_ret1 rfl rfl ?_
    exact ⟨_, rfl, str_res hC1 _⟩
  · replace hF := ite_f hF hc1
    refine W_skip ?_
    refine nrm_normal ?_
    refine W_seq_reg ?_
    refine WL_buildSlice (vs := []) hC1 Try.underlying71 ty5 rfl rfl rfl rfl (by simp) rfl rfl (fun b1 w2 hC2 hB2 => ?_)
    have hC3 := hC2.row0 (α := UInt8)
    have hC4 := hC3.front 1 rfl
    dsimp only [List.eraseIdx] at hC4
    have hC5 : Ctx [] w0 w2 (Item.own (.slice (some ⟨b1, 0, none⟩) 0 0) (([] : List UInt8) : List UInt8) :: []) := hC4.rowOwn (by simp [maxLen])
    refine WL_assign rfl rfl ?_
    refine WL_nil ?_
    refine W_seq ?_
    obtain ⟨r1, hr2, hF⟩ := bind_some hF
    refine W_norm (fun l w => ∃ x4 : Int, ∃ v2 : Value, ∃ x5 : (List UInt8), (x4, x5) = r1 ∧ l = [(0, (.int .i64 x4)), (3, v2)] ∧ Ctx [] w0 w [Item.own v2 (x5 : (List UInt8))]) ?_ ?_
    · refine W_block ?_
      refine W.sub (l' := [(0, (.int .i64 a1)), (3, (.slice (some ⟨b1, 0, none⟩) 0 0))]) ?_ ⟨rfl, rfl, trivial⟩
      refine W_loop (fun k l w => ∃ x2 : Int, ∃ v1 : Value, ∃ x3 : (List UInt8), l = [(0, (.int .i64 x2)), (3, v1)] ∧ Ctx [] w0 w [Item.own v1 (x3 : (List UInt8))] ∧ S.EncodeVarint_l1 k x2 x3 = some r1) FUEL ⟨a1, (.slice (some ⟨b1, 0, none⟩) 0 0), ([] : List UInt8), rfl, hC5, hr2⟩ ?_
      clear hr2
      rintro k1 _ w3 ⟨x2, v1, x3, rfl, hC6, hL1⟩
      cases k1 with
      | zero => rw [S.EncodeVarint_l1] at hL1; cases hL1
      | succ k1 =>
        rw [S.EncodeVarint_l1] at hL1
        refine W_seq ?_
        refine W_seq_reg ?_
        refine WL_move rfl rfl ?_
        refine WL_geq rfl rfl rfl ?_
        refine WL_nil ?_
        refine W_cond rfl (fun hc2 => ?_) (fun hc2 => ?_)
        · replace hL1 := ite_t hL1 hc2
          refine W_skip ?_
          refine nrm_normal ?_
          refine W_block ?_
          refine W_seq_reg ?_
          refine WL_move rfl rfl ?_
          refine WL_move rfl rfl ?_
          refine WL_rem (by decide) rfl rfl rfl ?_
          refine WL_add rfl rfl rfl ?_
          refine WL_conv_u8 Try.underlying3 Try.underlying5 rfl rfl ?_
          refine WL_buildSlice (vs := [(.int .u8 (w8 (w64 (128 + (x2.tmod 128)))))]) hC6 Try.underlying71 ty5 rfl rfl rfl rfl (by intro v hv; simp only [List.mem_cons, List.not_mem_nil, or_false] at hv; rcases hv with rfl <;> rfl) rfl rfl (fun b2 w4 hC7 hB4 => ?_)
          have hC8 := hC7.row0 (α := UInt8)
          have hC9 := hC8.triv (u8_val (w64 (128 + (x2.tmod 128))))
          have hC10 := hC9.row1
          have hC11 := hC10.front 1 rfl
          dsimp only [List.eraseIdx] at hC11
          have hC12 : Ctx [] w0 w4 (Item.own (.slice (some ⟨b2, 0, none⟩) 1 1) ([(u8 (w64 (128 + (x2.tmod 128))))] : List UInt8) :: [Item.own v1 (x3 : (List UInt8))]) := hC11.rowOwn (by simp [maxLen])
          obtain ⟨x6, hx1, hL1⟩ := bind_some hL1
          refine WL_append_flat (α := UInt8) hC12 1 rfl (hC12.ro 0 rfl) (Keep.refl _ _) Try.underlying71 ty5 rfl hx1 rfl rfl rfl (fun v3 w5 hC13 => ?_)
          try dsimp only [List.set] at hC13
          refine WL_assign rfl rfl ?_
          refine WL_nil ?_
          refine W_reg ?_
          refine WL_move rfl rfl ?_
          refine WL_quo (by decide) rfl rfl rfl ?_
          refine WL_assign rfl rfl ?_
          refine WL_nil ?_
          refine blk_normal ?_
          have hC14 := hC13.front 1 rfl
          dsimp only [List.eraseIdx] at hC14
          have hC15 := hC14.headN 1
          dsimp only [List.take] at hC15
          refine nrm_sub (l' := [(0, (.int .i64 (w64 (x2.tdiv 128)))), (3, v3)]) ⟨rfl, rfl, trivial⟩ ?_
          exact ⟨k1, Nat.lt_succ_self _, w64 (x2.tdiv 128), v3, x6, rfl, hC15, hL1⟩
        · replace hL1 := ite_f hL1 hc2
          refine W_exit ?_
          refine nrm_exit ?_
          refine nrm_exit ?_
          refine blk_exit ?_
          have hq2 := Option.some.inj hL1
          subst hq2
          refine nrm_sub (l' := [(0, (.int .i64 x2)), (3, v1)]) ⟨rfl, rfl, trivial⟩ ?_
          exact ⟨x2, v1, x3, rfl, rfl, hC6⟩
    · rintro l2 _ w6 hs2 ⟨x4, v2, x5, rfl, rfl, hC16⟩
      try dsimp only at hF
      refine nrm_sub' hs2 ?_
      clear hs2
      refine W_seq_reg ?_
      refine WL_move rfl rfl ?_
      refine WL_move rfl rfl ?_
      refine WL_conv_u8 Try.underlying3 Try.underlying5 rfl rfl ?_
      refine WL_buildSlice (vs := [(.int .u8 (w8 x4))]) hC16 Try.underlying71 ty5 rfl rfl rfl rfl (by intro v hv; simp only [List.mem_cons, List.not_mem_nil, or_false] at hv; rcases hv with rfl <;> rfl) rfl rfl (fun b3 w7 hC17 hB6 => ?_)
      have hC18 := hC17.row0 (α := UInt8)
      have hC19 := hC18.triv (u8_val x4)
      have hC20 := hC19.row1
      have hC21 := hC20.front 1 rfl
      dsimp only [List.eraseIdx] at hC21
      have hC22 : Ctx [] w0 w7 (Item.own (.slice (some ⟨b3, 0, none⟩) 1 1) ([(u8 x4)] : List UInt8) :: [Item.own v2 (x5 : (List UInt8))]) := hC21.rowOwn (by simp [maxLen])
      obtain ⟨x7, hx2, hF⟩ := bind_some hF
      refine WL_append_flat (α := UInt8) hC22 1 rfl (hC22.ro 0 rfl) (Keep.refl _ _) Try.underlying71 ty5 rfl hx2 rfl rfl rfl (fun v4 w8 hC23 => ?_)
      try dsimp only [List.set] at hC23
      refine WL_conv_bytes Try.underlying71 Try.underlying5 Try.underlying9 (hC23.ro 1 rfl) (Keep.refl _ _) rfl rfl ?_
      refine WL_assign rfl rfl ?_
      refine WL_nil ?_
      refine W_ret ?_
      have hq3 := Option.some.inj hF
      subst hq3
      refine fn_ret1 rfl rfl ?_
      exact ⟨_, rfl, str_res hC23 _⟩

theorem c_S_EncodeFixed {w0 : World} (a1 : Int) (a2 : Int) (rr : Str) (hF : S.EncodeFixed a1 a2 = some rr) :
    Calls Try.prog 76 [(.int .i64 a1), (.int .i64 a2)].toArray w0 fun e w' => ∃ v, e = .returned v ∧ Res w0 rr v w' := by
  refine calls_of_W Try.func76 rfl rfl ?_
  have hC0 := Ctx.start w0
  unfold S.EncodeFixed at hF
  refine W_seq_reg ?_
  refine WL_assign rfl rfl ?_
  refine WL_nil ?_
  refine W_seq ?_
  obtain ⟨r1, hr1, hF⟩ := bind_some hF
  refine W_cut (fun l w => ∃ x1 : Bool, x1 = r1 ∧ l = [(0, (.int .i64 a1)), (1, (.int .i64 a2)), (13, (.bool x1))] ∧ Below w0.heap.size w0 w ∧ Ctx [] w0 w []) ?_ ?_
  · refine W_reg ?_
    refine WL_move rfl rfl ?_
    obtain ⟨x2, hr2, hr1⟩ := bind_some hr1
    refine WL_call Try.call79 rfl rfl (c_S_l1In a2 1 7 x2 hr2) ?_
    intro _ w2 hv1
    obtain ⟨rfl, hB2⟩ := res_bool hv1
    have hC2 := hC0.grow hB2
    refine WL_not rfl rfl ?_
    refine WL_move rfl rfl ?_
    refine WL_fork (fun hc1 => ?_) (fun hc1 => ?_)
    · replace hr1 := ite_t hr1 hc1
      refine WL_guard_skip rfl rfl (by simp) rfl ?_
      refine WL_guard_skip rfl rfl (by simp) rfl ?_
      refine WL_pick_t rfl rfl rfl ?_
      refine WL_nil ?_
      have hq1 := Option.some.inj hr1
      subst hq1
      refine nrm_sub (l' := [(0, (.int .i64 a1)), (1, (.int .i64 a2)), (13, (.bool true))]) ⟨rfl, rfl, rfl, trivial⟩ ?_
      exact ⟨true, rfl, rfl, (Keep.of hB2).below, hC2⟩
    · replace hr1 := ite_f hr1 hc1
      refine WL_guard rfl rfl ?_
      refine WL_move rfl rfl ?_
      refine WL_guard rfl rfl ?_
      refine WL_lss rfl rfl rfl ?_
      refine WL_pick_f rfl rfl rfl ?_
      refine WL_nil ?_
      have hq2 := Option.some.inj hr1
      subst hq2
      refine nrm_sub (l' := [(0, (.int .i64 a1)), (1, (.int .i64 a2)), (13, (.bool (decide (a1 < 0))))]) ⟨rfl, rfl, rfl, trivial⟩ ?_
      exact ⟨(decide (a1 < 0)), rfl, rfl, (Keep.of hB2).below, hC2⟩
  · rintro _ w1 ⟨x1, rfl, rfl, hB1, hC1⟩
    try dsimp only at hF
    refine W_cond rfl (fun hc2 => ?_) (fun hc2 => ?_)
    · replace hF := ite_t hF hc2
      refine W_seq_reg ?_
      refine WL_assign rfl rfl ?_
      refine WL_nil ?_
      refine W_ret ?_
      refine nrm_ret ?_
      have hq3 := Option.some.inj hF
      subst hq3
      refine fn_ret1 rfl rfl ?_
      exact ⟨_, rfl, str_res hC1 _⟩
    · replace hF := ite_f hF hc2
      refine W_skip ?_
      refine nrm_normal ?_
      refine W_seq_reg ?_
      refine WL_assign rfl rfl ?_
      refine WL_nil ?_
      refine W_seq ?_
      refine W_seq_reg ?_
      refine WL_assign rfl rfl ?_
      refine WL_nil ?_
      obtain ⟨r2, hr3, hF⟩ := bind_some hF
      refine W_norm (fun l w => ∃ x6 : Int, ∃ x7 : Str, (x6, x7) = r2 ∧ l = [(0, (.int .i64 x6)), (5, (sv x7))] ∧ Below w1.heap.size w1 w ∧ Ctx [] w0 w []) ?_ ?_
      · refine W_block ?_
        refine W.sub (l' := [(0, (.int .i64 a1)), (1, (.int .i64 a2)), (5, (sv (str []))), (6, (.int .i64 0))]) ?_ ⟨rfl, rfl, rfl, rfl, trivial⟩
        refine W_loop (fun k l w => ∃ x3 : Int, ∃ x4 : Str, ∃ x5 : Int, l = [(0, (.int .i64 x3)), (1, (.int .i64 a2)), (5, (sv x4)), (6, (.int .i64 x5))] ∧ Below w1.heap.size w1 w ∧ Ctx [] w0 w [] ∧ S.EncodeFixed_l1 a2 k x3 x4 x5 = some r2) FUEL ⟨a1, (str []), 0, rfl, (Below.refl _ _), hC1, hr3⟩ ?_
        clear hr3
        rintro k1 _ w3 ⟨x3, x4, x5, rfl, hB3, hC3, hL1⟩
        cases k1 with
        | zero => rw [S.EncodeFixed_l1] at hL1; cases hL1
        | succ k1 =>
          rw [S.EncodeFixed_l1] at hL1
          refine W_seq ?_
          refine W_seq_reg ?_
          refine WL_move rfl rfl ?_
          refine WL_move rfl rfl ?_
          refine WL_lss rfl rfl rfl ?_
          refine WL_nil ?_
          refine W_cond rfl (fun hc3 => ?_) (fun hc3 => ?_)
          · replace hL1 := ite_t hL1 hc3
            refine W_skip ?_
            refine nrm_normal ?_
            refine W_seq ?_
            refine W_block ?_
            refine W_seq_reg ?_
            refine WL_move rfl rfl ?_
            refine WL_rem (by decide) rfl rfl rfl ?_
            refine WL_conv_u8 Try.underlying3 Try.underlying5 rfl rfl ?_
            refine WL_buildSlice (vs := [(.int .u8 (w8 (x3.tmod 256)))]) hC3 Try.underlying71 ty5 rfl rfl rfl rfl (by intro v hv; simp only [List.mem_cons, List.not_mem_nil, or_false] at hv; rcases hv with rfl <;> rfl) rfl rfl (fun b1 w4 hC4 hB4 => ?_)
            have hC5 := hC4.row0 (α := UInt8)
            have hC6 := hC5.triv (u8_val (x3.tmod 256))
            have hC7 := hC6.row1
            have hC8 := hC7.front 1 rfl
            dsimp only [List.eraseIdx] at hC8
            have hC9 : Ctx [] w0 w4 (Item.own (.slice (some ⟨b1, 0, none⟩) 1 1) ([(u8 (x3.tmod 256))] : List UInt8) :: []) := hC8.rowOwn (by simp [maxLen])
            refine WL_conv_bytes Try.underlying71 Try.underlying5 Try.underlying9 (hC9.ro 0 rfl) (Keep.refl _ _) rfl rfl ?_
            refine WL_move rfl rfl ?_
            obtain ⟨x8, hx1, hL1⟩ := bind_some hL1
            refine WL_str_add hx1 rfl rfl rfl ?_
            refine WL_assign rfl rfl ?_
            refine WL_nil ?_
            refine W_reg ?_
            refine WL_move rfl rfl ?_
            refine WL_quo (by decide) rfl rfl rfl ?_
            refine WL_assign rfl rfl ?_
            refine WL_nil ?_
            refine blk_normal ?_
            refine nrm_normal ?_
            refine W_reg ?_
            refine WL_move rfl rfl ?_
            refine WL_add rfl rfl rfl ?_
            refine WL_assign rfl rfl ?_
            refine WL_nil ?_
            have hC10 := hC9.headN 0
            dsimp only [List.take] at hC10
            refine nrm_sub (l' := [(0, (.int .i64 (w64 (x3.tdiv 256)))), (1, (.int .i64 a2)), (5, (sv x8)), (6, (.int .i64 (w64 (x5 + 1))))]) ⟨rfl, rfl, rfl, rfl, trivial⟩ ?_
            exact ⟨k1, Nat.lt_succ_self _, w64 (x3.tdiv 256), x8, w64 (x5 + 1), rfl, ((Keep.of hB3).then hB4).below, hC10, hL1⟩
          · replace hL1 := ite_f hL1 hc3
            refine W_exit ?_
            refine nrm_exit ?_
            refine nrm_exit ?_
            refine blk_exit ?_
            have hq4 := Option.some.inj hL1
            subst hq4
            refine nrm_sub (l' := [(0, (.int .i64 x3)), (5, (sv x4))]) ⟨rfl, rfl, trivial⟩ ?_
            exact ⟨x3, x4, rfl, rfl, (Keep.of hB3).below, hC3⟩
      · rintro l3 _ w5 hs3 ⟨x6, x7, rfl, rfl, hB5, hC11⟩
        try dsimp only at hF
        refine nrm_sub' hs3 ?_
        clear hs3
        refine W_seq ?_
        refine W_seq_reg ?_
        refine WL_move rfl rfl ?_
        refine WL_gtr rfl rfl rfl ?_
        refine WL_nil ?_
        refine W_cond rfl (fun hc4 => ?_) (fun hc4 => ?_)
        · replace hF := ite_t hF hc4
          refine W_seq_reg ?_
          refine WL_assign rfl rfl ?_
          refine WL_nil ?_
          refine W_ret ?_
          refine nrm_ret ?_
          have hq5 := Option.some.inj hF
          subst hq5
          refine fn_ret1 rfl rfl ?_
          exact ⟨_, rfl, str_res hC11 _⟩
        · replace hF := ite_f hF hc4
          refine W_skip ?_
          refine nrm_normal ?_
          refine W_seq_reg ?_
          refine WL_move rfl rfl ?_
          refine WL_assign rfl rfl ?_
          refine WL_nil ?_
          refine W_ret ?_
          have hq6 := Option.some.inj hF
          subst hq6
          refine fn_ret1 rfl rfl ?_
          exact ⟨_, rfl, str_res hC11 _⟩

theorem c_S_FrameOf {w0 : World} (a1 : Str) (rr : Str) (hF : S.FrameOf a1 = some rr) :
    Calls Try.prog 19 [(sv a1)].toArray w0 fun e w' => ∃ v, e = .returned v ∧ Res w0 rr v w' := by
  refine calls_of_W Try.func19 rfl rfl ?_
  have hC0 := Ctx.start w0
  unfold S.FrameOf at hF
  refine W_seq_reg ?_
  refine WL_assign rfl rfl ?_
  refine WL_nil ?_
  refine W_seq ?_
  refine W_seq_reg ?_
  refine WL_move rfl rfl ?_
  refine WL_len_str Try.underlying9 rfl rfl ?_
  refine WL_gtr rfl rfl rfl ?_
  refine WL_nil ?_
  refine W_cond rfl (fun hc1 => ?_) (fun hc1 => ?_)
  · replace hF := ite_t hF hc1
    refine W_seq_reg ?_
    refine WL_assign rfl rfl ?_
    refine WL_nil ?_
    refine W_ret ?_
    refine nrm_ret ?_
    have hq1 := Option.some.inj hF
    subst hq1
    refine fn_ret1 rfl rfl ?_
    exact ⟨_, rfl, str_res hC0 _⟩
  · replace hF := ite_f hF hc1
    refine W_skip ?_
    refine nrm_normal ?_
    refine W_seq_reg ?_
    refine WL_move rfl rfl ?_
    refine WL_len_str Try.underlying9 rfl rfl ?_
    obtain ⟨x1, hr1, hF⟩ := bind_some hF
    refine WL_call Try.call75 rfl rfl (c_S_EncodeVarint (List.length a1 : Int) x1 hr1) ?_
    intro _ w1 hv1
    obtain ⟨rfl, hB1⟩ := res_str hv1
    have hC1 := hC0.grow hB1
    refine WL_move rfl rfl ?_
    obtain ⟨x2, hx1, hF⟩ := bind_some hF
    refine WL_str_add hx1 rfl rfl rfl ?_
    refine WL_move rfl rfl ?_
    obtain ⟨x3, hr2, hF⟩ := bind_some hF
    refine WL_call Try.call15 rfl rfl (c_S_CheckByte a1 x3 hr2) ?_
    intro _ w2 hv2
    obtain ⟨rfl, hB2⟩ := res_int hv2
    have hC2 := hC1.grow hB2
    obtain ⟨x4, hr3, hF⟩ := bind_some hF
    refine WL_call Try.call76 rfl rfl (c_S_EncodeFixed x3 1 x4 hr3) ?_
    intro _ w3 hv3
    obtain ⟨rfl, hB3⟩ := res_str hv3
    have hC3 := hC2.grow hB3
    obtain ⟨x5, hx2, hF⟩ := bind_some hF
    refine WL_str_add hx2 rfl rfl rfl ?_
    refine WL_assign rfl rfl ?_
    refine WL_nil ?_
    refine W_ret ?_
    have hq2 := Option.some.inj hF
    subst hq2
    refine fn_ret1 rfl rfl ?_
    exact ⟨_, rfl, str_res hC3 _⟩

theorem c_M_CheckByte {w0 : World} (a1 : Str) (rr : Int) (hF : M.CheckByte a1 = some rr) :
    Calls Try.prog 16 [(sv a1)].toArray w0 fun e w' => ∃ v, e = .returned v ∧ Res w0 rr v w' := by
  refine calls_of_W Try.func16 rfl rfl ?_
  have hC0 := Ctx.start w0
  unfold M.CheckByte at hF
  refine W_seq_reg ?_
  refine WL_assign rfl rfl ?_
  refine WL_nil ?_
  refine W_seq_reg ?_
  refine WL_assign rfl rfl ?_
  refine WL_nil ?_
  refine W_seq ?_
  refine W_seq_reg ?_
  refine WL_move rfl rfl ?_
  refine WL_len_str Try.underlying9 rfl rfl ?_
  refine WL_move rfl rfl ?_
  refine WL_nil ?_
  obtain ⟨r1, hr1, hF⟩ := bind_some hF
  refine W_norm (fun l w => ∃ x3 : Int, x3 = r1 ∧ l = [(3, (.int .i64 x3))] ∧ Below w0.heap.size w0 w ∧ Ctx [] w0 w []) ?_ ?_
  · refine W_block ?_
    refine W.sub (l' := [(0, (sv a1)), (3, (.int .i64 7)), (6, (.int .i64 (List.length a1 : Int))), (7, (.int .i64 0))]) ?_ ⟨rfl, rfl, rfl, rfl, trivial⟩
    refine W_loop (fun k l w => ∃ x1 : Int, ∃ x2 : Int, l = [(0, (sv a1)), (3, (.int .i64 x1)), (6, (.int .i64 (List.length a1 : Int))), (7, (.int .i64 x2))] ∧ Below w0.heap.size w0 w ∧ Ctx [] w0 w [] ∧ M.CheckByte_l1 a1 k x1 x2 = some r1) FUEL ⟨7, 0, rfl, (Below.refl _ _), hC0, hr1⟩ ?_
    clear hr1
    rintro k1 _ w1 ⟨x1, x2, rfl, hB1, hC1, hL1⟩
    cases k1 with
    | zero => rw [M.CheckByte_l1] at hL1; cases hL1
    | succ k1 =>
      rw [M.CheckByte_l1] at hL1
      refine W_seq_reg ?_
      refine WL_lss rfl rfl rfl ?_
      refine WL_nil ?_
      refine W_seq ?_
      refine W_cond rfl (fun hc1 => ?_) (fun hc1 => ?_)
      · replace hL1 := ite_t hL1 hc1
        refine W_skip ?_
        refine nrm_normal ?_
        refine W_seq ?_
        refine W_block ?_
        refine W_seq_reg ?_
        refine WL_move rfl rfl ?_
        refine WL_assign rfl rfl ?_
        refine WL_nil ?_
        refine W_reg ?_
        refine WL_move rfl rfl ?_
        refine WL_mul rfl rfl rfl ?_
        refine WL_move rfl rfl ?_
        refine WL_move rfl rfl ?_
        obtain ⟨x4, hx1, hL1⟩ := bind_some hL1
        refine WL_index_str Try.underlying9 hx1 rfl rfl rfl ?_
        refine WL_conv_i64 Try.underlying5 Try.underlying3 rfl rfl ?_
        refine WL_add rfl rfl rfl ?_
        refine WL_rem (by decide) rfl rfl rfl ?_
        refine WL_assign rfl rfl ?_
        refine WL_nil ?_
        refine blk_normal ?_
        refine nrm_normal ?_
        refine W_reg ?_
        refine WL_add rfl rfl rfl ?_
        refine WL_move rfl rfl ?_
        refine WL_nil ?_
        refine nrm_sub (l' := [(0, (sv a1)), (3, (.int .i64 ((w64 ((w64 (31 * x1)) + (w64 (UInt8.toNat x4 : Int)))).tmod 251))), (6, (.int .i64 (List.length a1 : Int))), (7, (.int .i64 (w64 (x2 + 1))))]) ⟨rfl, rfl, rfl, rfl, trivial⟩ ?_
        exact ⟨k1, Nat.lt_succ_self _, (w64 ((w64 (31 * x1)) + (w64 (UInt8.toNat x4 : Int)))).tmod 251, w64 (x2 + 1), rfl, (Keep.of hB1).below, hC1, hL1⟩
      · replace hL1 := ite_f hL1 hc1
        refine W_exit ?_
        refine nrm_exit ?_
        refine nrm_exit ?_
        refine blk_exit ?_
        have hq1 := Option.some.inj hL1
        subst hq1
        refine nrm_sub (l' := [(3, (.int .i64 x1))]) ⟨rfl, trivial⟩ ?_
        exact ⟨x1, rfl, rfl, (Keep.of hB1).below, hC1⟩
  · rintro l2 _ w2 hs2 ⟨x3, rfl, rfl, hB2, hC2⟩
    try dsimp only at hF
    refine nrm_sub' hs2 ?_
    clear hs2
    refine W_seq_reg ?_
    refine WL_move rfl rfl ?_
    refine WL_assign rfl rfl ?_
    refine WL_nil ?_
    refine W_ret ?_
    have hq2 := Option.some.inj hF
    subst hq2
    refine fn_ret1 rfl rfl ?_
    exact ⟨_, rfl, int_res hC2 _⟩

theorem c_M_within {w0 : World} (a1 : Int) (a2 : Int) (a3 : Int) (rr : Bool) (hF : M.within a1 a2 a3 = some rr) :
    Calls Try.prog 84 [(.int .i64 a1), (.int .i64 a2), (.int .i64 a3)].toArray w0 fun e w' => ∃ v, e = .returned v ∧ Res w0 rr v w' := by
  refine calls_of_W Try.func84 rfl rfl ?_
  have hC0 := Ctx.start w0
  unfold M.within at hF
  refine W_seq_reg ?_
  refine WL_assign rfl rfl ?_
  refine WL_nil ?_
  obtain ⟨r1, hr1, hF⟩ := bind_some hF
  refine W_cut (fun l w => ∃ x1 : Bool, x1 = r1 ∧ l = [(6, (.bool x1))] ∧ Below w0.heap.size w0 w ∧ Ctx [] w0 w []) ?_ ?_
  · refine W_reg ?_
    refine WL_move rfl rfl ?_
    refine WL_move rfl rfl ?_
    refine WL_geq rfl rfl rfl ?_
    refine WL_move rfl rfl ?_
    refine WL_fork (fun hc1 => ?_) (fun hc1 => ?_)
    · replace hr1 := ite_t hr1 hc1
      refine WL_guard rfl rfl ?_
      refine WL_move rfl rfl ?_
      refine WL_guard rfl rfl ?_
      refine WL_move rfl rfl ?_
      refine WL_guard rfl rfl ?_
      refine WL_leq rfl rfl rfl ?_
      refine WL_pick_t rfl rfl rfl ?_
      refine WL_assign rfl rfl ?_
      refine WL_nil ?_
      have hq1 := Option.some.inj hr1
      subst hq1
      refine nrm_sub (l' := [(6, (.bool (decide (a1 ≤ a3))))]) ⟨rfl, trivial⟩ ?_
      exact ⟨(decide (a1 ≤ a3)), rfl, rfl, (Below.refl _ _), hC0⟩
    · replace hr1 := ite_f hr1 hc1
      refine WL_guard_skip rfl rfl (by simp) rfl ?_
      refine WL_guard_skip rfl rfl (by simp) rfl ?_
      refine WL_guard_skip rfl rfl (by simp) rfl ?_
      refine WL_pick_f rfl rfl rfl ?_
      refine WL_assign rfl rfl ?_
      refine WL_nil ?_
      have hq2 := Option.some.inj hr1
      subst hq2
      refine nrm_sub (l' := [(6, (.bool false))]) ⟨rfl, trivial⟩ ?_
      exact ⟨false, rfl, rfl, (Below.refl _ _), hC0⟩
  · rintro _ w1 ⟨x1, rfl, rfl, hB1, hC1⟩
    try dsimp only at hF
    refine W_ret ?_
    have hq3 := Option.some.inj hF
    subst hq3
    refine fn_ret1 rfl rfl ?_
    exact ⟨_, rfl, bool_res hC1 _⟩

theorem c_M_EncodeVarint {w0 : World} (a1 : Int) (rr : Str) (hF : M.EncodeVarint a1 = some rr) :
    Calls Try.prog 77 [(.int .i64 a1)].toArray w0 fun e w' => ∃ v, e = .returned v ∧ Res w0 rr v w' := by
  refine calls_of_W Try.func77 rfl rfl ?_
  have hC0 := Ctx.start w0
  unfold M.EncodeVarint at hF
  refine W_seq_reg ?_
  refine WL_assign rfl rfl ?_
  refine WL_nil ?_
  refine W_seq ?_
  refine W_seq_reg ?_
  refine WL_move rfl rfl ?_
  obtain ⟨x1, hr1, hF⟩ := bind_some hF
  refine WL_call Try.call84 rfl rfl (c_M_within a1 0 562949953421311 x1 hr1) ?_
  intro _ w1 hv1
  obtain ⟨rfl, hB1⟩ := res_bool hv1
  have hC1 := hC0.grow hB1
  refine WL_not rfl rfl ?_
  refine WL_nil ?_
  refine W_cond rfl (fun hc1 => ?_) (fun hc1 => ?_)
  · replace hF := ite_t hF hc1
    refine W_seq_reg ?_
    refine WL_assign rfl rfl ?_
    refine WL_nil ?_
    refine W_ret ?_
    refine nrm_ret ?_
    have hq1 := Option.some.inj hF
    subst hq1
    refine fn_ret1 rfl rfl ?_
    exact ⟨_, rfl, str_res hC1 _⟩
  · replace hF := ite_f hF hc1
    refine W_skip ?_
    refine nrm_normal ?_
    refine W_seq_reg ?_
    refine WL_buildSlice (vs := []) hC1 Try.underlying71 ty5 rfl rfl rfl rfl (by simp) rfl rfl (fun b1 w2 hC2 hB2 => ?_)
    have hC3 := hC2.row0 (α := UInt8)
    have hC4 := hC3.front 1 rfl
    dsimp only [List.eraseIdx] at hC4
    have hC5 : Ctx [] w0 w2 (Item.own (.slice (some ⟨b1, 0, none⟩) 0 0) (([] : List UInt8) : List UInt8) :: []) := hC4.rowOwn (by simp [maxLen])
    refine WL_assign rfl rfl ?_
    refine WL_nil ?_
    refine W_seq ?_
    obtain ⟨r1, hr2, hF⟩ := bind_some hF
    refine W_norm (fun l w => ∃ x4 : Int, ∃ v2 : Value, ∃ x5 : (List UInt8), (x4, x5) = r1 ∧ l = [(0, (.int .i64 x4)), (3, v2)] ∧ Ctx [] w0 w [Item.own v2 (x5 : (List UInt8))]) ?_ ?_
    · refine W_block ?_
      refine W.sub (l' := [(0, (.int .i64 a1)), (3, (.slice (some ⟨b1, 0, none⟩) 0 0))]) ?_ ⟨rfl, rfl, trivial⟩
      refine W_loop (fun k l w => ∃ x2 : Int, ∃ v1 : Value, ∃ x3 : (List UInt8), l = [(0, (.int .i64 x2)), (3, v1)] ∧ Ctx [] w0 w [Item.own v1 (x3 : (List UInt8))] ∧ M.EncodeVarint_l1 k x2 x3 = some r1) FUEL ⟨a1, (.slice (some ⟨b1, 0, none⟩) 0 0), ([] : List UInt8), rfl, hC5, hr2⟩ ?_
      clear hr2
      rintro k1 _ w3 ⟨x2, v1, x3, rfl, hC6, hL1⟩
      cases k1 with
      | zero => rw [M.EncodeVarint_l1] at hL1; cases hL1
      | succ k1 =>
        rw [M.EncodeVarint_l1] at hL1
        refine W_seq ?_
        refine W_seq_reg ?_
        refine WL_move rfl rfl ?_
        refine WL_geq rfl rfl rfl ?_
        refine WL_nil ?_
        refine W_cond rfl (fun hc2 => ?_) (fun hc2 => ?_)
        · replace hL1 := ite_t hL1 hc2
          refine W_skip ?_
          refine nrm_normal ?_
          refine W_block ?_
          refine W_seq_reg ?_
          refine WL_move rfl rfl ?_
          refine WL_move rfl rfl ?_
          refine WL_conv_u8 Try.underlying3 Try.underlying5 rfl rfl ?_
          refine WL_bor8 rfl rfl rfl ?_
          refine WL_buildSlice (vs := [(.int .u8 (bor8 (w8 x2) 128))]) hC6 Try.underlying71 ty5 rfl rfl rfl rfl (by intro v hv; simp only [List.mem_cons, List.not_mem_nil, or_false] at hv; rcases hv with rfl <;> rfl) rfl rfl (fun b2 w4 hC7 hB4 => ?_)
          have hC8 := hC7.row0 (α := UInt8)
          have hC9 := hC8.triv (u8_of (e := bor8 (w8 x2) 128) (bor8_range _ _))
          have hC10 := hC9.row1
          have hC11 := hC10.front 1 rfl
          dsimp only [List.eraseIdx] at hC11
          have hC12 : Ctx [] w0 w4 (Item.own (.slice (some ⟨b2, 0, none⟩) 1 1) ([(UInt8.ofNat (Int.toNat (bor8 (w8 x2) 128)))] : List UInt8) :: [Item.own v1 (x3 : (List UInt8))]) := hC11.rowOwn (by simp [maxLen])
          obtain ⟨x6, hx1, hL1⟩ := bind_some hL1
          refine WL_append_flat (α := UInt8) hC12 1 rfl (hC12.ro 0 rfl) (Keep.refl _ _) Try.underlying71 ty5 rfl hx1 rfl rfl rfl (fun v3 w5 hC13 => ?_)
          try dsimp only [List.set] at hC13
          refine WL_assign rfl rfl ?_
          refine WL_nil ?_
          refine W_reg ?_
          refine WL_move rfl rfl ?_
          refine WL_shr (by decide) rfl rfl rfl ?_
          refine WL_assign rfl rfl ?_
          refine WL_nil ?_
          refine blk_normal ?_
          have hC14 := hC13.front 1 rfl
          dsimp only [List.eraseIdx] at hC14
          have hC15 := hC14.headN 1
          dsimp only [List.take] at hC15
          refine nrm_sub (l' := [(0, (.int .i64 (shr x2 7))), (3, v3)]) ⟨rfl, rfl, trivial⟩ ?_
          exact ⟨k1, Nat.lt_succ_self _, shr x2 7, v3, x6, rfl, hC15, hL1⟩
        · replace hL1 := ite_f hL1 hc2
          refine W_exit ?_
          refine nrm_exit ?_
          refine nrm_exit ?_
          refine blk_exit ?_
          have hq2 := Option.some.inj hL1
          subst hq2
          refine nrm_sub (l' := [(0, (.int .i64 x2)), (3, v1)]) ⟨rfl, rfl, trivial⟩ ?_
          exact ⟨x2, v1, x3, rfl, rfl, hC6⟩
    · rintro l2 _ w6 hs2 ⟨x4, v2, x5, rfl, rfl, hC16⟩
      try dsimp only at hF
      refine nrm_sub' hs2 ?_
      clear hs2
      refine W_seq_reg ?_
      refine WL_move rfl rfl ?_
      refine WL_move rfl rfl ?_
      refine WL_conv_u8 Try.underlying3 Try.underlying5 rfl rfl ?_
      refine WL_buildSlice (vs := [(.int .u8 (w8 x4))]) hC16 Try.underlying71 ty5 rfl rfl rfl rfl (by intro v hv; simp only [List.mem_cons, List.not_mem_nil, or_false] at hv; rcases hv with rfl <;> rfl) rfl rfl (fun b3 w7 hC17 hB6 => ?_)
      have hC18 := hC17.row0 (α := UInt8)
      have hC19 := hC18.triv (u8_val x4)
      have hC20 := hC19.row1
      have hC21 := hC20.front 1 rfl
      dsimp only [List.eraseIdx] at hC21
      have hC22 : Ctx [] w0 w7 (Item.own (.slice (some ⟨b3, 0, none⟩) 1 1) ([(u8 x4)] : List UInt8) :: [Item.own v2 (x5 : (List UInt8))]) := hC21.rowOwn (by simp [maxLen])
      obtain ⟨x7, hx2, hF⟩ := bind_some hF
      refine WL_append_flat (α := UInt8) hC22 1 rfl (hC22.ro 0 rfl) (Keep.refl _ _) Try.underlying71 ty5 rfl hx2 rfl rfl rfl (fun v4 w8 hC23 => ?_)
      try dsimp only [List.set] at hC23
      refine WL_conv_bytes Try.underlying71 Try.underlying5 Try.underlying9 (hC23.ro 1 rfl) (Keep.refl _ _) rfl rfl ?_
      refine WL_assign rfl rfl ?_
      refine WL_nil ?_
      refine W_ret ?_
      have hq3 := Option.some.inj hF
      subst hq3
      refine fn_ret1 rfl rfl ?_
      exact ⟨_, rfl, str_res hC23 _⟩

theorem c_M_FrameOf {w0 : World} (a1 : Str) (rr : Str) (hF : M.FrameOf a1 = some rr) :
    Calls Try.prog 20 [(sv a1)].toArray w0 fun e w' => ∃ v, e = .returned v ∧ Res w0 rr v w' := by
  refine calls_of_W Try.func20 rfl rfl ?_
  have hC0 := Ctx.start w0
  unfold M.FrameOf at hF
  refine W_seq_reg ?_
  refine WL_assign rfl rfl ?_
  refine WL_nil ?_
  refine W_seq ?_
  refine W_seq_reg ?_
  refine WL_move rfl rfl ?_
  refine WL_len_str Try.underlying9 rfl rfl ?_
  refine WL_gtr rfl rfl rfl ?_
  refine WL_nil ?_
  refine W_cond rfl (fun hc1 => ?_) (fun hc1 => ?_)
  · replace hF := ite_t hF hc1
    refine W_seq_reg ?_
    refine WL_assign rfl rfl ?_
    refine WL_nil ?_
    refine W_ret ?_
    refine nrm_ret ?_
    have hq1 := Option.some.inj hF
    subst hq1
    refine fn_ret1 rfl rfl ?_
    exact ⟨_, rfl, str_res hC0 _⟩
  · replace hF := ite_f hF hc1
    refine W_skip ?_
    refine nrm_normal ?_
    refine W_seq_reg ?_
    refine WL_move rfl rfl ?_
    refine WL_len_str Try.underlying9 rfl rfl ?_
    obtain ⟨x1, hr1, hF⟩ := bind_some hF
    refine WL_call Try.call77 rfl rfl (c_M_EncodeVarint (List.length a1 : Int) x1 hr1) ?_
    intro _ w1 hv1
    obtain ⟨rfl, hB1⟩ := res_str hv1
    have hC1 := hC0.grow hB1
    refine WL_move rfl rfl ?_
    obtain ⟨x2, hx1, hF⟩ := bind_some hF
    refine WL_str_add hx1 rfl rfl rfl ?_
    refine WL_move rfl rfl ?_
    obtain ⟨x3, hr2, hF⟩ := bind_some hF
    refine WL_call Try.call16 rfl rfl (c_M_CheckByte a1 x3 hr2) ?_
    intro _ w2 hv2
    obtain ⟨rfl, hB2⟩ := res_int hv2
    have hC2 := hC1.grow hB2
    refine WL_conv_u8 Try.underlying3 Try.underlying5 rfl rfl ?_
    refine WL_buildSlice (vs := [(.int .u8 (w8 x3))]) hC2 Try.underlying71 ty5 rfl rfl rfl rfl (by intro v hv; simp only [List.mem_cons, List.not_mem_nil, or_false] at hv; rcases hv with rfl <;> rfl) rfl rfl (fun b1 w3 hC3 hB3 => ?_)
    have hC4 := hC3.row0 (α := UInt8)
    have hC5 := hC4.triv (u8_val x3)
    have hC6 := hC5.row1
    have hC7 := hC6.front 1 rfl
    dsimp only [List.eraseIdx] at hC7
    have hC8 : Ctx [] w0 w3 (Item.own (.slice (some ⟨b1, 0, none⟩) 1 1) ([(u8 x3)] : List UInt8) :: []) := hC7.rowOwn (by simp [maxLen])
    refine WL_conv_bytes Try.underlying71 Try.underlying5 Try.underlying9 (hC8.ro 0 rfl) (Keep.refl _ _) rfl rfl ?_
    obtain ⟨x4, hx2, hF⟩ := bind_some hF
    refine WL_str_add hx2 rfl rfl rfl ?_
    refine WL_assign rfl rfl ?_
    refine WL_nil ?_
    refine W_ret ?_
    have hq2 := Option.some.inj hF
    subst hq2
    refine fn_ret1 rfl rfl ?_
    exact ⟨_, rfl, str_res hC8 _⟩

theorem c_Q_FnExactFrameOf {w0 : World} (a1 : Str) (rr : Bool) (hF : Q.FnExactFrameOf a1 = some rr) :
    Calls Try.prog 5 [(sv a1)].toArray w0 fun e w' => ∃ v, e = .returned v ∧ Res w0 rr v w' := by
  refine calls_of_W Try.func5 rfl rfl ?_
  have hC0 := Ctx.start w0
  unfold Q.FnExactFrameOf at hF
  refine W_seq_reg ?_
  refine WL_assign rfl rfl ?_
  refine WL_nil ?_
  refine W_seq ?_
  refine W_seq_reg ?_
  refine WL_move rfl rfl ?_
  refine WL_len_str Try.underlying9 rfl rfl ?_
  refine WL_gtr rfl rfl rfl ?_
  refine WL_nil ?_
  refine W_cond rfl (fun hc1 => ?_) (fun hc1 => ?_)
  · replace hF := ite_t hF hc1
    refine W_seq_reg ?_
    refine WL_assign rfl rfl ?_
    refine WL_nil ?_
    refine W_ret ?_
    refine nrm_ret ?_
    have hq1 := Option.some.inj hF
    subst hq1
    refine fn_ret1 rfl rfl ?_
    exact ⟨_, rfl, bool_res hC0 _⟩
  · replace hF := ite_f hF hc1
    refine W_skip ?_
    refine nrm_normal ?_
    refine W_seq_reg ?_
    refine WL_move rfl rfl ?_
    obtain ⟨x1, hr1, hF⟩ := bind_some hF
    refine WL_call Try.call19 rfl rfl (c_S_FrameOf a1 x1 hr1) ?_
    intro _ w1 hv1
    obtain ⟨rfl, hB1⟩ := res_str hv1
    have hC1 := hC0.grow hB1
    refine WL_assign rfl rfl ?_
    refine WL_nil ?_
    refine W_seq_reg ?_
    refine WL_move rfl rfl ?_
    obtain ⟨x2, hr2, hF⟩ := bind_some hF
    refine WL_call Try.call20 rfl rfl (c_M_FrameOf a1 x2 hr2) ?_
    intro _ w2 hv2
    obtain ⟨rfl, hB2⟩ := res_str hv2
    have hC2 := hC1.grow hB2
    refine WL_assign rfl rfl ?_
    refine WL_nil ?_
    refine W_seq ?_
    refine W_seq_reg ?_
    refine WL_move rfl rfl ?_
    refine WL_move rfl rfl ?_
    refine WL_str_neq rfl rfl rfl ?_
    refine WL_nil ?_
    refine W_cond rfl (fun hc2 => ?_) (fun hc2 => ?_)
    · replace hF := ite_t hF hc2
      refine W_seq_reg ?_
      refine WL_assign rfl rfl ?_
      refine WL_nil ?_
      refine W_ret ?_
      refine nrm_ret ?_
      have hq2 := Option.some.inj hF
      subst hq2
      refine fn_ret1 rfl rfl ?_
      exact ⟨_, rfl, bool_res hC2 _⟩
    · replace hF := ite_f hF hc2
      refine W_skip ?_
      refine nrm_normal ?_
      refine W_seq_reg ?_
      refine WL_assign rfl rfl ?_
      refine WL_nil ?_
      refine W_ret ?_
      have hq3 := Option.some.inj hF
      subst hq3
      refine fn_ret1 rfl rfl ?_
      exact ⟨_, rfl, bool_res hC2 _⟩

theorem c_Q_FnExactCheckByte {w0 : World} (a1 : Str) (rr : Bool) (hF : Q.FnExactCheckByte a1 = some rr) :
    Calls Try.prog 3 [(sv a1)].toArray w0 fun e w' => ∃ v, e = .returned v ∧ Res w0 rr v w' := by
  refine calls_of_W Try.func3 rfl rfl ?_
  have hC0 := Ctx.start w0
  unfold Q.FnExactCheckByte at hF
  refine W_seq_reg ?_
  refine WL_assign rfl rfl ?_
  refine WL_nil ?_
  refine W_seq ?_
  refine W_seq_reg ?_
  refine WL_move rfl rfl ?_
  refine WL_len_str Try.underlying9 rfl rfl ?_
  refine WL_gtr rfl rfl rfl ?_
  refine WL_nil ?_
  refine W_cond rfl (fun hc1 => ?_) (fun hc1 => ?_)
  · replace hF := ite_t hF hc1
    refine W_seq_reg ?_
    refine WL_assign rfl rfl ?_
    refine WL_nil ?_
    refine W_ret ?_
    refine nrm_ret ?_
    have hq1 := Option.some.inj hF
    subst hq1
    refine fn_ret1 rfl rfl ?_
    exact ⟨_, rfl, bool_res hC0 _⟩
  · replace hF := ite_f hF hc1
    refine W_skip ?_
    refine nrm_normal ?_
    refine W_seq_reg ?_
    refine WL_move rfl rfl ?_
    obtain ⟨x1, hr1, hF⟩ := bind_some hF
    refine WL_call Try.call15 rfl rfl (c_S_CheckByte a1 x1 hr1) ?_
    intro _ w1 hv1
    obtain ⟨rfl, hB1⟩ := res_int hv1
    have hC1 := hC0.grow hB1
    refine WL_assign rfl rfl ?_
    refine WL_nil ?_
    refine W_seq_reg ?_
    refine WL_move rfl rfl ?_
    obtain ⟨x2, hr2, hF⟩ := bind_some hF
    refine WL_call Try.call16 rfl rfl (c_M_CheckByte a1 x2 hr2) ?_
    intro _ w2 hv2
    obtain ⟨rfl, hB2⟩ := res_int hv2
    have hC2 := hC1.grow hB2
    refine WL_assign rfl rfl ?_
    refine WL_nil ?_
    refine W_seq ?_
    refine W_seq_reg ?_
    refine WL_move rfl rfl ?_
    refine WL_move rfl rfl ?_
    refine WL_neq rfl rfl rfl ?_
    refine WL_nil ?_
    refine W_cond rfl (fun hc2 => ?_) (fun hc2 => ?_)
    · replace hF := ite_t hF hc2
      refine W_seq_reg ?_
      refine WL_assign rfl rfl ?_
      refine WL_nil ?_
      refine W_ret ?_
      refine nrm_ret ?_
      have hq2 := Option.some.inj hF
      subst hq2
      refine fn_ret1 rfl rfl ?_
      exact ⟨_, rfl, bool_res hC2 _⟩
    · replace hF := ite_f hF hc2
      refine W_skip ?_
      refine nrm_normal ?_
      refine W_seq_reg ?_
      refine WL_assign rfl rfl ?_
      refine WL_nil ?_
      refine W_ret ?_
      have hq3 := Option.some.inj hF
      subst hq3
      refine fn_ret1 rfl rfl ?_
      exact ⟨_, rfl, bool_res hC2 _⟩

end Go.Gx.Px
