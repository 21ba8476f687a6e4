/- The contracts of the Go functions against the pure functions, printed by program. Conditions: each says them. -/
import Derived.Test.YtojmmbafoakfkaaTy
import Derived.Test.YtojmmbafoakfkaaPure
set_option linter.unusedVariables false
set_option linter.unusedSimpArgs false
set_option maxRecDepth 100000
set_option maxHeartbeats 4000000
namespace Go.Gx.Px
open Go.Proofs Go.RowKit

theorem c_Q_big {w0 : World} (a1 : (List UInt8)) (u1 : Value) (g1 : RO [] w0 u1 a1) (rr : Bool) (hF : Q.big a1 = some rr) :
 Calls Try.prog 4 [u1].toArray w0 fun e w' => ∃ v, e = .returned v ∧ Res w0 rr v w' := by
 refine calls_of_W Try.func4 rfl rfl ?_
 have hC0 := Ctx.start w0
 unfold Q.big at hF
 refine W_seq_reg ?_
 refine WL_assign rfl rfl ?_
 refine WL_nil ?_
 refine W_seq_reg ?_
 refine WL_move rfl rfl ?_
 refine WL_len Try.underlying22 g1 rfl rfl ?_
 refine WL_gtr rfl rfl rfl ?_
 refine WL_assign rfl rfl ?_
 refine WL_nil ?_
 refine W_ret ?_
 have hq1 := Option.some.inj hF
 subst hq1
 refine fn_ret1 rfl rfl ?_
 exact ⟨_, rfl, bool_res hC0 _⟩

theorem c_S_CheckByte {w0 : World} (a1 : Str) (rr : Int) (hF : S.CheckByte a1 = some rr) :
 Calls Try.prog 13 [(sv a1)].toArray w0 fun e w' => ∃ v, e = .returned v ∧ Res w0 rr v w' := by
 refine calls_of_W Try.func13 rfl rfl ?_
 have hC0 := Ctx.start w0
 unfold S.CheckByte at hF
 refine W_seq_reg ?_
 refine WL_assign rfl rfl ?_
 refine WL_nil ?_
 refine W_seq_reg ?_
 refine WL_assign rfl rfl ?_
 refine WL_nil ?_
 refine W_seq ?_
 refine W_seq_reg ?_
 refine WL_assign rfl rfl ?_
 refine WL_nil ?_
 obtain ⟨r1, hr1, hF⟩ := bind_some hF
 refine W_norm (fun l w => ∃ x3 : Int, x3 = r1 ∧ l = [(3, (.int .i64 x3))] ∧ Below w0.heap.size w0 w ∧ Ctx [] w0 w []) ?_ ?_
 ·refine W_block ?_
  refine W.sub (l' := [(0, (sv a1)), (3, (.int .i64 7)), (4, (.int .i64 0))]) ?_ ⟨rfl, rfl, rfl, trivial⟩
  refine W_loop (fun k l w => ∃ x1 : Int, ∃ x2 : Int, l = [(0, (sv a1)), (3, (.int .i64 x1)), (4, (.int .i64 x2))] ∧ Below w0.heap.size w0 w ∧ Ctx [] w0 w [] ∧ S.CheckByte_l1 a1 k x1 x2 = some r1) FUEL ⟨7, 0, rfl, (Below.refl _ _), hC0, hr1⟩ ?_
  clear hr1
  rintro k1 _ w1 ⟨x1, x2, rfl, hB1, hC1, hL1⟩
  cases k1 with
  | zero => rw [S.CheckByte_l1] at hL1; cases hL1
  | succ k1 =>
   rw [S.CheckByte_l1] at hL1
   refine W_seq ?_
   refine W_seq_reg ?_
   refine WL_move rfl rfl ?_
   refine WL_move rfl rfl ?_
   refine WL_len_str Try.underlying9 rfl rfl ?_
   refine WL_lss rfl rfl rfl ?_
   refine WL_nil ?_
   refine W_cond rfl (fun hc1 => ?_) (fun hc1 => ?_)
   ·replace hL1 := ite_t hL1 hc1
    refine W_skip ?_
    refine nrm_normal ?_
    refine W_seq ?_
    refine W_block ?_
    refine W_reg ?_
    refine WL_move rfl rfl ?_
    refine WL_mul rfl rfl rfl ?_
    refine WL_move rfl rfl ?_
    refine WL_move rfl rfl ?_
    obtain ⟨x4, hx1, hL1⟩ := bind_some hL1
    refine WL_index_str Try.underlying9 hx1 rfl rfl rfl ?_
    refine WL_conv_i64 Try.underlying5 Try.underlying3 rfl rfl ?_
    refine WL_add rfl rfl rfl ?_
    refine WL_rem (by decide) rfl rfl rfl ?_
    refine WL_assign rfl rfl ?_
    refine WL_nil ?_
    refine blk_normal ?_
    refine nrm_normal ?_
    refine W_reg ?_
    refine WL_move rfl rfl ?_
    refine WL_add rfl rfl rfl ?_
    refine WL_assign rfl rfl ?_
    refine WL_nil ?_
    refine nrm_sub (l' := [(0, (sv a1)), (3, (.int .i64 ((w64 ((w64 (x1 * 31)) + (w64 (UInt8.toNat x4 : Int)))).tmod 251))), (4, (.int .i64 (w64 (x2 + 1))))]) ⟨rfl, rfl, rfl, trivial⟩ ?_
    exact ⟨k1, Nat.lt_succ_self _, (w64 ((w64 (x1 * 31)) + (w64 (UInt8.toNat x4 : Int)))).tmod 251, w64 (x2 + 1), rfl, (Keep.of hB1).below, hC1, hL1⟩
   replace hL1 := ite_f hL1 hc1
   refine W_exit ?_
   refine nrm_exit ?_
   refine nrm_exit ?_
   refine blk_exit ?_
   have hq1 := Option.some.inj hL1
   subst hq1
   refine nrm_sub (l' := [(3, (.int .i64 x1))]) ⟨rfl, trivial⟩ ?_
   exact ⟨x1, rfl, rfl, (Keep.of hB1).below, hC1⟩
 rintro l2 _ w2 hs2 ⟨x3, rfl, rfl, hB2, hC2⟩
 try dsimp only at hF
 refine nrm_sub' hs2 ?_
 clear hs2
 refine W_seq_reg ?_
 refine WL_move rfl rfl ?_
 refine WL_assign rfl rfl ?_
 refine WL_nil ?_
 refine W_ret ?_
 have hq2 := Option.some.inj hF
 subst hq2
 refine fn_ret1 rfl rfl ?_
 exact ⟨_, rfl, int_res hC2 _⟩

theorem c_S_l1In {w0 : World} (a1 : Int) (a2 : Int) (a3 : Int) (rr : Bool) (hF : S.l1In a1 a2 a3 = some rr) :
 Calls Try.prog 29 [(.int .i64 a1), (.int .i64 a2), (.int .i64 a3)].toArray w0 fun e w' => ∃ v, e = .returned v ∧ Res w0 rr v w' := by
 refine calls_of_W Try.func29 rfl rfl ?_
 have hC0 := Ctx.start w0
 unfold S.l1In at hF
 refine W_seq_reg ?_
 refine WL_assign rfl rfl ?_
 refine WL_nil ?_
 obtain ⟨r1, hr1, hF⟩ := bind_some hF
 refine W_cut (fun l w => ∃ x1 : Bool, x1 = r1 ∧ l = [(6, (.bool x1))] ∧ Below w0.heap.size w0 w ∧ Ctx [] w0 w []) ?_ ?_
 ·refine W_reg ?_
  refine WL_move rfl rfl ?_
  refine WL_move rfl rfl ?_
  refine WL_geq rfl rfl rfl ?_
  refine WL_move rfl rfl ?_
  refine WL_fork (fun hc1 => ?_) (fun hc1 => ?_)
  ·replace hr1 := ite_t hr1 hc1
   refine WL_guard rfl rfl ?_
   refine WL_move rfl rfl ?_
   refine WL_guard rfl rfl ?_
   refine WL_move rfl rfl ?_
   refine WL_guard rfl rfl ?_
   refine WL_leq rfl rfl rfl ?_
   refine WL_pick_t rfl rfl rfl ?_
   refine WL_assign rfl rfl ?_
   refine WL_nil ?_
   have hq1 := Option.some.inj hr1
   subst hq1
   refine nrm_sub (l' := [(6, (.bool (decide (a1 ≤ a3))))]) ⟨rfl, trivial⟩ ?_
   exact ⟨(decide (a1 ≤ a3)), rfl, rfl, (Below.refl _ _), hC0⟩
  replace hr1 := ite_f hr1 hc1
  refine WL_guard_skip rfl rfl (by simp) rfl ?_
  refine WL_guard_skip rfl rfl (by simp) rfl ?_
  refine WL_guard_skip rfl rfl (by simp) rfl ?_
  refine WL_pick_f rfl rfl rfl ?_
  refine WL_assign rfl rfl ?_
  refine WL_nil ?_
  have hq2 := Option.some.inj hr1
  subst hq2
  refine nrm_sub (l' := [(6, (.bool false))]) ⟨rfl, trivial⟩ ?_
  exact ⟨false, rfl, rfl, (Below.refl _ _), hC0⟩
 rintro _ w1 ⟨x1, rfl, rfl, hB1, hC1⟩
 try dsimp only at hF
 refine W_ret ?_
 have hq3 := Option.some.inj hF
 subst hq3
 refine fn_ret1 rfl rfl ?_
 exact ⟨_, rfl, bool_res hC1 _⟩

theorem c_S_EncodeFixed {w0 : World} (a1 : Int) (a2 : Int) (rr : Str) (hF : S.EncodeFixed a1 a2 = some rr) :
 Calls Try.prog 23 [(.int .i64 a1), (.int .i64 a2)].toArray w0 fun e w' => ∃ v, e = .returned v ∧ Res w0 rr v w' := by
 refine calls_of_W Try.func23 rfl rfl ?_
 have hC0 := Ctx.start w0
 unfold S.EncodeFixed at hF
 refine W_seq_reg ?_
 refine WL_assign rfl rfl ?_
 refine WL_nil ?_
 refine W_seq ?_
 obtain ⟨r1, hr1, hF⟩ := bind_some hF
 refine W_cut (fun l w => ∃ x1 : Bool, x1 = r1 ∧ l = [(0, (.int .i64 a1)), (1, (.int .i64 a2)), (13, (.bool x1))] ∧ Below w0.heap.size w0 w ∧ Ctx [] w0 w []) ?_ ?_
 ·refine W_reg ?_
  refine WL_move rfl rfl ?_
  obtain ⟨x2, hr2, hr1⟩ := bind_some hr1
  refine WL_call Try.call29 rfl rfl (c_S_l1In a2 1 7 x2 hr2) ?_
  intro _ w2 hv1
  obtain ⟨rfl, hB2⟩ := res_bool hv1
  have hC2 := hC0.grow hB2
  refine WL_not rfl rfl ?_
  refine WL_move rfl rfl ?_
  refine WL_fork (fun hc1 => ?_) (fun hc1 => ?_)
  ·replace hr1 := ite_t hr1 hc1
   refine WL_guard_skip rfl rfl (by simp) rfl ?_
   refine WL_guard_skip rfl rfl (by simp) rfl ?_
   refine WL_pick_t rfl rfl rfl ?_
   refine WL_nil ?_
   have hq1 := Option.some.inj hr1
   subst hq1
   refine nrm_sub (l' := [(0, (.int .i64 a1)), (1, (.int .i64 a2)), (13, (.bool true))]) ⟨rfl, rfl, rfl, trivial⟩ ?_
   exact ⟨true, rfl, rfl, (Keep.of hB2).below, hC2⟩
  replace hr1 := ite_f hr1 hc1
  refine WL_guard rfl rfl ?_
  refine WL_move rfl rfl ?_
  refine WL_guard rfl rfl ?_
  refine WL_lss rfl rfl rfl ?_
  refine WL_pick_f rfl rfl rfl ?_
  refine WL_nil ?_
  have hq2 := Option.some.inj hr1
  subst hq2
  refine nrm_sub (l' := [(0, (.int .i64 a1)), (1, (.int .i64 a2)), (13, (.bool (decide (a1 < 0))))]) ⟨rfl, rfl, rfl, trivial⟩ ?_
  exact ⟨(decide (a1 < 0)), rfl, rfl, (Keep.of hB2).below, hC2⟩
 rintro _ w1 ⟨x1, rfl, rfl, hB1, hC1⟩
 try dsimp only at hF
 refine W_cond rfl (fun hc2 => ?_) (fun hc2 => ?_)
 ·replace hF := ite_t hF hc2
  refine W_seq_reg ?_
  refine WL_assign rfl rfl ?_
  refine WL_nil ?_
  refine W_ret ?_
  refine nrm_ret ?_
  have hq3 := Option.some.inj hF
  subst hq3
  refine fn_ret1 rfl rfl ?_
  exact ⟨_, rfl, str_res hC1 _⟩
 replace hF := ite_f hF hc2
 refine W_skip ?_
 refine nrm_normal ?_
 refine W_seq_reg ?_
 refine WL_assign rfl rfl ?_
 refine WL_nil ?_
 refine W_seq ?_
 refine W_seq_reg ?_
 refine WL_assign rfl rfl ?_
 refine WL_nil ?_
 obtain ⟨r2, hr3, hF⟩ := bind_some hF
 refine W_norm (fun l w => ∃ x6 : Int, ∃ x7 : Str, (x6, x7) = r2 ∧ l = [(0, (.int .i64 x6)), (5, (sv x7))] ∧ Below w1.heap.size w1 w ∧ Ctx [] w0 w []) ?_ ?_
 ·refine W_block ?_
  refine W.sub (l' := [(0, (.int .i64 a1)), (1, (.int .i64 a2)), (5, (sv (str []))), (6, (.int .i64 0))]) ?_ ⟨rfl, rfl, rfl, rfl, trivial⟩
  refine W_loop (fun k l w => ∃ x3 : Int, ∃ x4 : Str, ∃ x5 : Int, l = [(0, (.int .i64 x3)), (1, (.int .i64 a2)), (5, (sv x4)), (6, (.int .i64 x5))] ∧ Below w1.heap.size w1 w ∧ Ctx [] w0 w [] ∧ S.EncodeFixed_l1 a2 k x3 x4 x5 = some r2) FUEL ⟨a1, (str []), 0, rfl, (Below.refl _ _), hC1, hr3⟩ ?_
  clear hr3
  rintro k1 _ w3 ⟨x3, x4, x5, rfl, hB3, hC3, hL1⟩
  cases k1 with
  | zero => rw [S.EncodeFixed_l1] at hL1; cases hL1
  | succ k1 =>
   rw [S.EncodeFixed_l1] at hL1
   refine W_seq ?_
   refine W_seq_reg ?_
   refine WL_move rfl rfl ?_
   refine WL_move rfl rfl ?_
   refine WL_lss rfl rfl rfl ?_
   refine WL_nil ?_
   refine W_cond rfl (fun hc3 => ?_) (fun hc3 => ?_)
   ·replace hL1 := ite_t hL1 hc3
    refine W_skip ?_
    refine nrm_normal ?_
    refine W_seq ?_
    refine W_block ?_
    refine W_seq_reg ?_
    refine WL_move rfl rfl ?_
    refine WL_rem (by decide) rfl rfl rfl ?_
    refine WL_conv_u8 Try.underlying3 Try.underlying5 rfl rfl ?_
    refine WL_buildSlice (vs := [(.int .u8 (w8 (x3.tmod 256)))]) hC3 Try.underlying22 ty5 rfl rfl rfl rfl (by intro v hv; simp only [List.mem_cons, List.not_mem_nil, or_false] at hv; rcases hv with rfl <;> rfl) rfl rfl (fun b1 w4 hC4 hB4 => ?_)
    have hC5 := hC4.row0 (α := UInt8)
    have hC6 := hC5.triv (u8_val (x3.tmod 256))
    have hC7 := hC6.row1
    have hC8 := hC7.front 1 rfl
    dsimp only [List.eraseIdx, List.cons_append, List.nil_append, List.append_nil] at hC8
    have hC9 : Ctx [] w0 w4 (Item.own (.slice (some ⟨b1, 0, none⟩) 1 1) ([(u8 (x3.tmod 256))] : List UInt8) :: []) := hC8.rowOwn (by simp [maxLen])
    refine WL_conv_bytes Try.underlying22 Try.underlying5 Try.underlying9 (hC9.ro 0 rfl) (Keep.refl _ _) rfl rfl ?_
    refine WL_move rfl rfl ?_
    obtain ⟨x8, hx1, hL1⟩ := bind_some hL1
    refine WL_str_add hx1 rfl rfl rfl ?_
    refine WL_assign rfl rfl ?_
    refine WL_nil ?_
    refine W_reg ?_
    refine WL_move rfl rfl ?_
    refine WL_quo (by decide) rfl rfl rfl ?_
    refine WL_assign rfl rfl ?_
    refine WL_nil ?_
    refine blk_normal ?_
    refine nrm_normal ?_
    refine W_reg ?_
    refine WL_move rfl rfl ?_
    refine WL_add rfl rfl rfl ?_
    refine WL_assign rfl rfl ?_
    refine WL_nil ?_
    have hC10 := hC9.h0
    refine nrm_sub (l' := [(0, (.int .i64 (w64 (x3.tdiv 256)))), (1, (.int .i64 a2)), (5, (sv x8)), (6, (.int .i64 (w64 (x5 + 1))))]) ⟨rfl, rfl, rfl, rfl, trivial⟩ ?_
    exact ⟨k1, Nat.lt_succ_self _, w64 (x3.tdiv 256), x8, w64 (x5 + 1), rfl, ((Keep.of hB3).then hB4).below, hC10, hL1⟩
   replace hL1 := ite_f hL1 hc3
   refine W_exit ?_
   refine nrm_exit ?_
   refine nrm_exit ?_
   refine blk_exit ?_
   have hq4 := Option.some.inj hL1
   subst hq4
   refine nrm_sub (l' := [(0, (.int .i64 x3)), (5, (sv x4))]) ⟨rfl, rfl, trivial⟩ ?_
   exact ⟨x3, x4, rfl, rfl, (Keep.of hB3).below, hC3⟩
 rintro l3 _ w5 hs3 ⟨x6, x7, rfl, rfl, hB5, hC11⟩
 try dsimp only at hF
 refine nrm_sub' hs3 ?_
 clear hs3
 refine W_seq ?_
 refine W_seq_reg ?_
 refine WL_move rfl rfl ?_
 refine WL_gtr rfl rfl rfl ?_
 refine WL_nil ?_
 refine W_cond rfl (fun hc4 => ?_) (fun hc4 => ?_)
 ·replace hF := ite_t hF hc4
  refine W_seq_reg ?_
  refine WL_assign rfl rfl ?_
  refine WL_nil ?_
  refine W_ret ?_
  refine nrm_ret ?_
  have hq5 := Option.some.inj hF
  subst hq5
  refine fn_ret1 rfl rfl ?_
  exact ⟨_, rfl, str_res hC11 _⟩
 replace hF := ite_f hF hc4
 refine W_skip ?_
 refine nrm_normal ?_
 refine W_seq_reg ?_
 refine WL_move rfl rfl ?_
 refine WL_assign rfl rfl ?_
 refine WL_nil ?_
 refine W_ret ?_
 have hq6 := Option.some.inj hF
 subst hq6
 refine fn_ret1 rfl rfl ?_
 exact ⟨_, rfl, str_res hC11 _⟩

theorem c_S_EncodeVarint {w0 : World} (a1 : Int) (rr : Str) (hF : S.EncodeVarint a1 = some rr) :
 Calls Try.prog 26 [(.int .i64 a1)].toArray w0 fun e w' => ∃ v, e = .returned v ∧ Res w0 rr v w' := by
 refine calls_of_W Try.func26 rfl rfl ?_
 have hC0 := Ctx.start w0
 unfold S.EncodeVarint at hF
 refine W_seq_reg ?_
 refine WL_assign rfl rfl ?_
 refine WL_nil ?_
 refine W_seq ?_
 refine W_seq_reg ?_
 refine WL_move rfl rfl ?_
 obtain ⟨x1, hr1, hF⟩ := bind_some hF
 refine WL_call Try.call29 rfl rfl (c_S_l1In a1 0 562949953421311 x1 hr1) ?_
 intro _ w1 hv1
 obtain ⟨rfl, hB1⟩ := res_bool hv1
 have hC1 := hC0.grow hB1
 refine WL_not rfl rfl ?_
 refine WL_nil ?_
 refine W_cond rfl (fun hc1 => ?_) (fun hc1 => ?_)
 ·replace hF := ite_t hF hc1
  refine W_seq_reg ?_
  refine WL_assign rfl rfl ?_
  refine WL_nil ?_
  refine W_ret ?_
  refine nrm_ret ?_
  have hq1 := Option.some.inj hF
  subst hq1
  refine fn_ret1 rfl rfl ?_
  exact ⟨_, rfl, str_res hC1 _⟩
 replace hF := ite_f hF hc1
 refine W_skip ?_
 refine nrm_normal ?_
 refine W_seq_reg ?_
 refine WL_buildSlice (vs := []) hC1 Try.underlying22 ty5 rfl rfl rfl rfl (by simp) rfl rfl (fun b1 w2 hC2 hB2 => ?_)
 have hC3 := hC2.row0 (α := UInt8)
 have hC4 := hC3.front 1 rfl
 dsimp only [List.eraseIdx, List.cons_append, List.nil_append, List.append_nil] at hC4
 have hC5 : Ctx [] w0 w2 (Item.own (.slice (some ⟨b1, 0, none⟩) 0 0) (([] : List UInt8) : List UInt8) :: []) := hC4.rowOwn (by simp [maxLen])
 refine WL_assign rfl rfl ?_
 refine WL_nil ?_
 refine W_seq ?_
 obtain ⟨r1, hr2, hF⟩ := bind_some hF
 refine W_norm (fun l w => ∃ x4 : Int, ∃ v2 : Value, ∃ x5 : (List UInt8), (x4, x5) = r1 ∧ l = [(0, (.int .i64 x4)), (3, v2)] ∧ Ctx [] w0 w [Item.own v2 (x5 : (List UInt8))]) ?_ ?_
 ·refine W_block ?_
  refine W.sub (l' := [(0, (.int .i64 a1)), (3, (.slice (some ⟨b1, 0, none⟩) 0 0))]) ?_ ⟨rfl, rfl, trivial⟩
  refine W_loop (fun k l w => ∃ x2 : Int, ∃ v1 : Value, ∃ x3 : (List UInt8), l = [(0, (.int .i64 x2)), (3, v1)] ∧ Ctx [] w0 w [Item.own v1 (x3 : (List UInt8))] ∧ S.EncodeVarint_l1 k x2 x3 = some r1) FUEL ⟨a1, (.slice (some ⟨b1, 0, none⟩) 0 0), ([] : List UInt8), rfl, hC5, hr2⟩ ?_
  clear hr2
  rintro k1 _ w3 ⟨x2, v1, x3, rfl, hC6, hL1⟩
  cases k1 with
  | zero => rw [S.EncodeVarint_l1] at hL1; cases hL1
  | succ k1 =>
   rw [S.EncodeVarint_l1] at hL1
   refine W_seq ?_
   refine W_seq_reg ?_
   refine WL_move rfl rfl ?_
   refine WL_geq rfl rfl rfl ?_
   refine WL_nil ?_
   refine W_cond rfl (fun hc2 => ?_) (fun hc2 => ?_)
   ·replace hL1 := ite_t hL1 hc2
    refine W_skip ?_
    refine nrm_normal ?_
    refine W_block ?_
    refine W_seq_reg ?_
    refine WL_move rfl rfl ?_
    refine WL_move rfl rfl ?_
    refine WL_rem (by decide) rfl rfl rfl ?_
    refine WL_add rfl rfl rfl ?_
    refine WL_conv_u8 Try.underlying3 Try.underlying5 rfl rfl ?_
    refine WL_buildSlice (vs := [(.int .u8 (w8 (w64 (128 + (x2.tmod 128)))))]) hC6 Try.underlying22 ty5 rfl rfl rfl rfl (by intro v hv; simp only [List.mem_cons, List.not_mem_nil, or_false] at hv; rcases hv with rfl <;> rfl) rfl rfl (fun b2 w4 hC7 hB4 => ?_)
    have hC8 := hC7.row0 (α := UInt8)
    have hC9 := hC8.triv (u8_val (w64 (128 + (x2.tmod 128))))
    have hC10 := hC9.row1
    have hC11 := hC10.front 1 rfl
    dsimp only [List.eraseIdx, List.cons_append, List.nil_append, List.append_nil] at hC11
    have hC12 : Ctx [] w0 w4 (Item.own (.slice (some ⟨b2, 0, none⟩) 1 1) ([(u8 (w64 (128 + (x2.tmod 128))))] : List UInt8) :: [Item.own v1 (x3 : (List UInt8))]) := hC11.rowOwn (by simp [maxLen])
    obtain ⟨x6, hx1, hL1⟩ := bind_some hL1
    refine WL_append_flat (α := UInt8) hC12 1 rfl (hC12.ro 0 rfl) (Keep.refl _ _) Try.underlying22 ty5 rfl hx1 rfl rfl rfl (fun v3 w5 hC13 => ?_)
    try dsimp only [List.set] at hC13
    refine WL_assign rfl rfl ?_
    refine WL_nil ?_
    refine W_reg ?_
    refine WL_move rfl rfl ?_
    refine WL_quo (by decide) rfl rfl rfl ?_
    refine WL_assign rfl rfl ?_
    refine WL_nil ?_
    refine blk_normal ?_
    have hC14 := hC13.f1
    have hC15 := hC14.h1
    refine nrm_sub (l' := [(0, (.int .i64 (w64 (x2.tdiv 128)))), (3, v3)]) ⟨rfl, rfl, trivial⟩ ?_
    exact ⟨k1, Nat.lt_succ_self _, w64 (x2.tdiv 128), v3, x6, rfl, hC15, hL1⟩
   replace hL1 := ite_f hL1 hc2
   refine W_exit ?_
   refine nrm_exit ?_
   refine nrm_exit ?_
   refine blk_exit ?_
   have hq2 := Option.some.inj hL1
   subst hq2
   refine nrm_sub (l' := [(0, (.int .i64 x2)), (3, v1)]) ⟨rfl, rfl, trivial⟩ ?_
   exact ⟨x2, v1, x3, rfl, rfl, hC6⟩
 rintro l2 _ w6 hs2 ⟨x4, v2, x5, rfl, rfl, hC16⟩
 try dsimp only at hF
 refine nrm_sub' hs2 ?_
 clear hs2
 refine W_seq_reg ?_
 refine WL_move rfl rfl ?_
 refine WL_move rfl rfl ?_
 refine WL_conv_u8 Try.underlying3 Try.underlying5 rfl rfl ?_
 refine WL_buildSlice (vs := [(.int .u8 (w8 x4))]) hC16 Try.underlying22 ty5 rfl rfl rfl rfl (by intro v hv; simp only [List.mem_cons, List.not_mem_nil, or_false] at hv; rcases hv with rfl <;> rfl) rfl rfl (fun b3 w7 hC17 hB6 => ?_)
 have hC18 := hC17.row0 (α := UInt8)
 have hC19 := hC18.triv (u8_val x4)
 have hC20 := hC19.row1
 have hC21 := hC20.front 1 rfl
 dsimp only [List.eraseIdx, List.cons_append, List.nil_append, List.append_nil] at hC21
 have hC22 : Ctx [] w0 w7 (Item.own (.slice (some ⟨b3, 0, none⟩) 1 1) ([(u8 x4)] : List UInt8) :: [Item.own v2 (x5 : (List UInt8))]) := hC21.rowOwn (by simp [maxLen])
 obtain ⟨x7, hx2, hF⟩ := bind_some hF
 refine WL_append_flat (α := UInt8) hC22 1 rfl (hC22.ro 0 rfl) (Keep.refl _ _) Try.underlying22 ty5 rfl hx2 rfl rfl rfl (fun v4 w9 hC23 => ?_)
 try dsimp only [List.set] at hC23
 refine WL_conv_bytes Try.underlying22 Try.underlying5 Try.underlying9 (hC23.ro 1 rfl) (Keep.refl _ _) rfl rfl ?_
 refine WL_assign rfl rfl ?_
 refine WL_nil ?_
 refine W_ret ?_
 have hq3 := Option.some.inj hF
 subst hq3
 refine fn_ret1 rfl rfl ?_
 exact ⟨_, rfl, str_res hC23 _⟩

theorem c_S_FrameOf {w0 : World} (a1 : Str) (rr : Str) (hF : S.FrameOf a1 = some rr) :
 Calls Try.prog 11 [(sv a1)].toArray w0 fun e w' => ∃ v, e = .returned v ∧ Res w0 rr v w' := by
 refine calls_of_W Try.func11 rfl rfl ?_
 have hC0 := Ctx.start w0
 unfold S.FrameOf at hF
 refine W_seq_reg ?_
 refine WL_assign rfl rfl ?_
 refine WL_nil ?_
 refine W_seq ?_
 refine W_seq_reg ?_
 refine WL_move rfl rfl ?_
 refine WL_len_str Try.underlying9 rfl rfl ?_
 refine WL_gtr rfl rfl rfl ?_
 refine WL_nil ?_
 refine W_cond rfl (fun hc1 => ?_) (fun hc1 => ?_)
 ·replace hF := ite_t hF hc1
  refine W_seq_reg ?_
  refine WL_assign rfl rfl ?_
  refine WL_nil ?_
  refine W_ret ?_
  refine nrm_ret ?_
  have hq1 := Option.some.inj hF
  subst hq1
  refine fn_ret1 rfl rfl ?_
  exact ⟨_, rfl, str_res hC0 _⟩
 replace hF := ite_f hF hc1
 refine W_skip ?_
 refine nrm_normal ?_
 refine W_seq_reg ?_
 refine WL_move rfl rfl ?_
 refine WL_len_str Try.underlying9 rfl rfl ?_
 obtain ⟨x1, hr1, hF⟩ := bind_some hF
 refine WL_call Try.call26 rfl rfl (c_S_EncodeVarint (List.length a1 : Int) x1 hr1) ?_
 intro _ w1 hv1
 obtain ⟨rfl, hB1⟩ := res_str hv1
 have hC1 := hC0.grow hB1
 refine WL_move rfl rfl ?_
 obtain ⟨x2, hx1, hF⟩ := bind_some hF
 refine WL_str_add hx1 rfl rfl rfl ?_
 refine WL_move rfl rfl ?_
 obtain ⟨x3, hr2, hF⟩ := bind_some hF
 refine WL_call Try.call13 rfl rfl (c_S_CheckByte a1 x3 hr2) ?_
 intro _ w2 hv2
 obtain ⟨rfl, hB2⟩ := res_int hv2
 have hC2 := hC1.grow hB2
 obtain ⟨x4, hr3, hF⟩ := bind_some hF
 refine WL_call Try.call23 rfl rfl (c_S_EncodeFixed x3 1 x4 hr3) ?_
 intro _ w3 hv3
 obtain ⟨rfl, hB3⟩ := res_str hv3
 have hC3 := hC2.grow hB3
 obtain ⟨x5, hx2, hF⟩ := bind_some hF
 refine WL_str_add hx2 rfl rfl rfl ?_
 refine WL_assign rfl rfl ?_
 refine WL_nil ?_
 refine W_ret ?_
 have hq2 := Option.some.inj hF
 subst hq2
 refine fn_ret1 rfl rfl ?_
 exact ⟨_, rfl, str_res hC3 _⟩

theorem c_S_l1New {w0 : World} (a1 : (List UInt8)) (u1 : Value) (g1 : RO [] w0 u1 a1) (rr : ((List UInt8) × Int × Int)) (hF : S.l1New a1 = some rr) :
 Calls Try.prog 14 [u1].toArray w0 fun e w' => ∃ v, e = .returned v ∧ ∃ q0 : Nat, v = (ptr q0 0) ∧ Ctx [] w0 w' [Item.box q0 [u1, (.int .i64 rr.2.1), (.int .i64 rr.2.2)]] := by
 refine calls_of_W Try.func14 rfl rfl ?_
 have hC0 := Ctx.start w0
 unfold S.l1New at hF
 refine W_seq_reg ?_
 refine WL_assign rfl rfl ?_
 refine WL_nil ?_
 refine W_seq_reg ?_
 refine WL_move rfl rfl ?_
 refine WL_len Try.underlying22 g1 rfl rfl ?_
 refine WL_add rfl rfl rfl ?_
 refine WL_assign rfl rfl ?_
 refine WL_nil ?_
 refine W_seq ?_
 refine W_seq_reg ?_
 refine WL_assign rfl rfl ?_
 refine WL_nil ?_
 obtain ⟨r1, hr1, hF⟩ := bind_some hF
 refine W_norm (fun l w => ∃ x3 : Int, x3 = r1 ∧ l = [(0, u1), (3, (.int .i64 x3))] ∧ Below w0.heap.size w0 w ∧ Ctx [] w0 w []) ?_ ?_
 ·refine W_block ?_
  refine W.sub (l' := [(0, u1), (3, (.int .i64 (w64 (10101 + (List.length a1 : Int))))), (4, (.int .i64 0))]) ?_ ⟨rfl, rfl, rfl, trivial⟩
  refine W_loop (fun k l w => ∃ x1 : Int, ∃ x2 : Int, l = [(0, u1), (3, (.int .i64 x1)), (4, (.int .i64 x2))] ∧ Below w0.heap.size w0 w ∧ Ctx [] w0 w [] ∧ S.l1New_l1 a1 k x1 x2 = some r1) FUEL ⟨w64 (10101 + (List.length a1 : Int)), 0, rfl, (Below.refl _ _), hC0, hr1⟩ ?_
  clear hr1
  rintro k1 _ w1 ⟨x1, x2, rfl, hB1, hC1, hL1⟩
  cases k1 with
  | zero => rw [S.l1New_l1] at hL1; cases hL1
  | succ k1 =>
   rw [S.l1New_l1] at hL1
   refine W_seq ?_
   obtain ⟨r2, hr2, hL1⟩ := bind_some hL1
   refine W_cut (fun l w => ∃ x4 : Bool, x4 = r2 ∧ l = [(0, u1), (3, (.int .i64 x1)), (4, (.int .i64 x2)), (15, (.bool x4))] ∧ Below w1.heap.size w1 w ∧ Ctx [] w0 w []) ?_ ?_
   ·refine W_reg ?_
    refine WL_move rfl rfl ?_
    refine WL_move rfl rfl ?_
    refine WL_len Try.underlying22 g1 rfl rfl ?_
    refine WL_lss rfl rfl rfl ?_
    refine WL_move rfl rfl ?_
    refine WL_fork (fun hc1 => ?_) (fun hc1 => ?_)
    ·replace hr2 := ite_t hr2 hc1
     refine WL_guard rfl rfl ?_
     refine WL_move rfl rfl ?_
     refine WL_guard rfl rfl ?_
     refine WL_lss rfl rfl rfl ?_
     refine WL_pick_t rfl rfl rfl ?_
     refine WL_nil ?_
     have hq1 := Option.some.inj hr2
     subst hq1
     refine nrm_sub (l' := [(0, u1), (3, (.int .i64 x1)), (4, (.int .i64 x2)), (15, (.bool (decide (x2 < 4000))))]) ⟨rfl, rfl, rfl, rfl, trivial⟩ ?_
     exact ⟨(decide (x2 < 4000)), rfl, rfl, (Below.refl _ _), hC1⟩
    replace hr2 := ite_f hr2 hc1
    refine WL_guard_skip rfl rfl (by simp) rfl ?_
    refine WL_guard_skip rfl rfl (by simp) rfl ?_
    refine WL_pick_f rfl rfl rfl ?_
    refine WL_nil ?_
    have hq2 := Option.some.inj hr2
    subst hq2
    refine nrm_sub (l' := [(0, u1), (3, (.int .i64 x1)), (4, (.int .i64 x2)), (15, (.bool false))]) ⟨rfl, rfl, rfl, rfl, trivial⟩ ?_
    exact ⟨false, rfl, rfl, (Below.refl _ _), hC1⟩
   rintro _ w2 ⟨x4, rfl, rfl, hB2, hC2⟩
   try dsimp only at hL1
   refine W_cond rfl (fun hc2 => ?_) (fun hc2 => ?_)
   ·replace hL1 := ite_t hL1 hc2
    refine W_skip ?_
    refine nrm_normal ?_
    refine W_seq ?_
    refine W_block ?_
    refine W_reg ?_
    refine WL_move rfl rfl ?_
    refine WL_mul rfl rfl rfl ?_
    refine WL_move rfl rfl ?_
    refine WL_move rfl rfl ?_
    obtain ⟨x5, hx1, hL1⟩ := bind_some hL1
    refine WL_index Try.underlying22 ty5 g1 hx1 rfl rfl rfl (fun b1 o1 h1 => ?_)
    refine WL_load ty5 h1 hC2.keep rfl rfl (fun v1 h2 => ?_)
    obtain rfl := ro_u8 h2
    refine WL_conv_i64 Try.underlying5 Try.underlying3 rfl rfl ?_
    refine WL_add rfl rfl rfl ?_
    refine WL_add rfl rfl rfl ?_
    refine WL_band rfl rfl rfl ?_
    refine WL_assign rfl rfl ?_
    refine WL_nil ?_
    refine blk_normal ?_
    refine nrm_normal ?_
    refine W_reg ?_
    refine WL_move rfl rfl ?_
    refine WL_add rfl rfl rfl ?_
    refine WL_assign rfl rfl ?_
    refine WL_nil ?_
    refine nrm_sub (l' := [(0, u1), (3, (.int .i64 (band (w64 ((w64 ((w64 (x1 * 131)) + (w64 (UInt8.toNat x5 : Int)))) + 7)) 1073741823))), (4, (.int .i64 (w64 (x2 + 1))))]) ⟨rfl, rfl, rfl, trivial⟩ ?_
    exact ⟨k1, Nat.lt_succ_self _, band (w64 ((w64 ((w64 (x1 * 131)) + (w64 (UInt8.toNat x5 : Int)))) + 7)) 1073741823, w64 (x2 + 1), rfl, ((Keep.of hB1).then hB2).below, hC2, hL1⟩
   replace hL1 := ite_f hL1 hc2
   refine W_exit ?_
   refine nrm_exit ?_
   refine nrm_exit ?_
   refine blk_exit ?_
   have hq3 := Option.some.inj hL1
   subst hq3
   refine nrm_sub (l' := [(0, u1), (3, (.int .i64 x1))]) ⟨rfl, rfl, trivial⟩ ?_
   exact ⟨x1, rfl, rfl, ((Keep.of hB1).then hB2).below, hC2⟩
 rintro l3 _ w3 hs3 ⟨x3, rfl, rfl, hB3, hC3⟩
 try dsimp only at hF
 refine nrm_sub' hs3 ?_
 clear hs3
 refine W_seq_reg ?_
 refine WL_move rfl rfl ?_
 refine WL_move rfl rfl ?_
 refine WL_build (vs := [(0, u1), (2, (.int .i64 x3))]) rfl rfl rfl (built46_0_2 (ro_cells g1) rfl) ?_
 refine WL_box (cs := [u1, (.int .i64 0), (.int .i64 x3)]) hC3 rfl rfl rfl (fun b2 w4 hC4 hB4 => ?_)
 refine WL_assign rfl rfl ?_
 refine WL_nil ?_
 refine W_ret ?_
 have hq4 := Option.some.inj hF
 subst hq4
 refine fn_ret1 rfl rfl ?_
 exact ⟨_, rfl, _, rfl, hC4⟩

theorem c_S_l1Byte {w0 : World} {Fs : List (List Nat)} (pb1 : Nat) (a1 : ((List UInt8) × Int × Int)) (u1 : Value) (g1 : RO Fs.flatten w0 u1 a1.1) (hH : Hold [Item.box pb1 [u1, (.int .i64 a1.2.1), (.int .i64 a1.2.2)]] w0 Fs) (hn : Fs.flatten.Nodup) (rr : (Int × ((List UInt8) × Int × Int))) (hF : S.l1Byte a1 = some rr) :
 Calls Try.prog 27 [(ptr pb1 0)].toArray w0 fun e w' => ∃ v, e = .returned v ∧ v = (.int .i64 rr.1) ∧ Ctx Fs.flatten w0 w' [Item.box pb1 [u1, (.int .i64 rr.2.2.1), (.int .i64 rr.2.2.2)]] := by
 refine calls_of_W Try.func27 rfl rfl ?_
 have hC0 := Ctx.startIn hH hn
 unfold S.l1Byte at hF
 refine W_seq_reg ?_
 refine WL_assign rfl rfl ?_
 refine WL_nil ?_
 refine W_seq_reg ?_
 refine WL_move rfl rfl ?_
 refine WL_move rfl rfl ?_
 refine WL_nilCheck rfl rfl ?_
 refine WL_field Try.underlying46 rfl rfl (fun w => ⟨_, Try.sizeOf3 w⟩) rfl rfl ?_
 refine WL_load_box hC0 0 rfl rfl Try.isAgg3 rfl rfl ?_
 refine WL_mul rfl rfl rfl ?_
 refine WL_add rfl rfl rfl ?_
 refine WL_nilCheck rfl rfl ?_
 refine WL_field Try.underlying46 rfl rfl (fun w => ⟨_, Try.sizeOf3 w⟩) rfl rfl ?_
 refine WL_store_box (cs' := [u1, (.int .i64 a1.2.1), (.int .i64 (w64 ((w64 (a1.2.2 * 6364136223846793005)) + 1442695040888963407)))]) hC0 0 rfl rfl rfl rfl Try.sizeOf3 rfl rfl (fun w1 hC1 => ?_)
 try dsimp only [List.set] at hC1
 refine WL_nil ?_
 refine W_seq ?_
 refine W_drawn 13 rfl hmix (fun w2 hB1 => ?_)
 have hC2 := hC1.grow hB1
 refine WA_tk 0 (by kernel_rfl) rfl rfl (fl_move rfl) ?_
 refine WL_move rfl rfl ?_
 refine WL_nil ?_
 refine WA_tk 1 (by kernel_rfl) rfl rfl (fl_nilCheck rfl) ?_
 refine WL_nilCheck rfl rfl ?_
 refine WL_nil ?_
 refine WA_tk 2 (by kernel_rfl) rfl rfl (fl_field Try.underlying46 rfl rfl (fun w => ⟨_, Try.sizeOf3 w⟩) rfl) ?_
 refine WL_field Try.underlying46 rfl rfl (fun w => ⟨_, Try.sizeOf3 w⟩) rfl rfl ?_
 refine WL_nil ?_
 refine WA_tk 5 (by kernel_rfl) rfl rfl (fl_move rfl) ?_
 refine WL_move rfl rfl ?_
 refine WL_nil ?_
 refine WA_tk 6 (by kernel_rfl) rfl rfl (fl_nilCheck rfl) ?_
 refine WL_nilCheck rfl rfl ?_
 refine WL_nil ?_
 refine WA_tk 7 (by kernel_rfl) rfl rfl (fl_field Try.underlying46 rfl rfl (fun w => ⟨_, Try.sizeOf3 w⟩) rfl) ?_
 refine WL_field Try.underlying46 rfl rfl (fun w => ⟨_, Try.sizeOf3 w⟩) rfl rfl ?_
 refine WL_nil ?_
 refine WA.sub (l' := [(0, (ptr pb1 0)), (2, (.int .i64 0)), (4, (ptr pb1 0)), (5, (ptr pb1 0)), (6, (ptr pb1 0)), (7, (ptr pb1 2)), (8, (.int .i64 a1.2.2)), (9, (.int .i64 (w64 (a1.2.2 * 6364136223846793005)))), (10, (.int .i64 (w64 ((w64 (a1.2.2 * 6364136223846793005)) + 1442695040888963407)))), (11, (ptr pb1 0)), (12, (ptr pb1 2)), (13, (ptr pb1 0)), (14, (ptr pb1 0)), (15, (ptr pb1 2)), (18, (ptr pb1 0)), (19, (ptr pb1 0)), (20, (ptr pb1 2))]) ?_ ⟨rfl, rfl, rfl, rfl, rfl, rfl, rfl, rfl, rfl, rfl, rfl, rfl, rfl, rfl, rfl, rfl, rfl, trivial⟩
 refine WA_postsE [⟨3, [], fun vs => PW.val (.int .i64 (w64 ((w64 (a1.2.2 * 6364136223846793005)) + 1442695040888963407))), []⟩, ⟨4, [], fun vs => PW.val (.int .i64 (shr (w64 ((w64 (a1.2.2 * 6364136223846793005)) + 1442695040888963407)) 33)), []⟩, ⟨8, [], fun vs => PW.val (.int .i64 (w64 ((w64 (a1.2.2 * 6364136223846793005)) + 1442695040888963407))), []⟩, ⟨9, [], fun vs => PW.val (.int .i64 (shr (w64 ((w64 (a1.2.2 * 6364136223846793005)) + 1442695040888963407)) 45)), []⟩] [[], [3], [], [8]] 3 rfl (by kernel_rfl) (by kernel_rfl) rfl ?_ ?_
 ·refine StepsE_cons rfl ?_ ?_
  ·intro w3 hB2
   refine DepsE_nil ?_
   refine ⟨_, rfl, ?_⟩
   refine WL_load_box (hC2.grow hB2) 0 rfl rfl Try.isAgg3 rfl rfl ?_
   refine WL_nil ?_
   exact FinE_val (Below.refl _ _) rfl rfl ⟨rfl, rfl⟩
  refine StepsE_cons rfl ?_ ?_
  ·intro w3 hB2
   refine DepsE_cons rfl rfl rfl ?_
   rintro _ _ ⟨rfl, rfl⟩ _
   refine DepsE_nil ?_
   refine ⟨_, rfl, ?_⟩
   refine WL_shr (by decide) rfl rfl rfl ?_
   refine WL_nil ?_
   exact FinE_val (Below.refl _ _) rfl rfl ⟨rfl, rfl⟩
  refine StepsE_cons rfl ?_ ?_
  ·intro w3 hB2
   refine DepsE_nil ?_
   refine ⟨_, rfl, ?_⟩
   refine WL_load_box (hC2.grow hB2) 0 rfl rfl Try.isAgg3 rfl rfl ?_
   refine WL_nil ?_
   exact FinE_val (Below.refl _ _) rfl rfl ⟨rfl, rfl⟩
  refine StepsE_cons rfl ?_ ?_
  ·intro w3 hB2
   refine DepsE_cons rfl rfl rfl ?_
   rintro _ _ ⟨rfl, rfl⟩ _
   refine DepsE_nil ?_
   refine ⟨_, rfl, ?_⟩
   refine WL_shr (by decide) rfl rfl rfl ?_
   refine WL_nil ?_
   exact FinE_val (Below.refl _ _) rfl rfl ⟨rfl, rfl⟩
  exact StepsE_nil
 intro w4 hB3
 refine AllE_cons rfl rfl rfl ?_
 rintro _ _ ⟨rfl, rfl⟩
 refine AllE_cons rfl rfl rfl ?_
 rintro _ _ ⟨rfl, rfl⟩
 refine AllE_cons rfl rfl rfl ?_
 rintro _ _ ⟨rfl, rfl⟩
 refine AllE_cons rfl rfl rfl ?_
 rintro _ _ ⟨rfl, rfl⟩
 refine AllE_nil ?_
 intro hn1 hb1
 have hC3 := hC2.grow hB3
 refine WA_tk 10 (by kernel_rfl) rfl rfl (fl_bxor rfl rfl) ?_
 refine WL_bxor rfl rfl rfl ?_
 refine WL_nil ?_
 refine WA_tk 11 (by kernel_rfl) rfl rfl (fl_band rfl rfl) ?_
 refine WL_band rfl rfl rfl ?_
 refine WL_nil ?_
 refine WA_tk 12 (by kernel_rfl) rfl rfl (fl_assign rfl) ?_
 refine WL_assign rfl rfl ?_
 refine WL_nil ?_
 refine WA_done (by kernel_rfl) ?_
 refine nrm_normal ?_
 refine W_seq ?_
 refine W_seq ?_
 refine W_drawn 10 rfl hmix (fun w5 hB4 => ?_)
 have hC4 := hC3.grow hB4
 refine WA_tk 0 (by kernel_rfl) rfl rfl (fl_move rfl) ?_
 refine WL_move rfl rfl ?_
 refine WL_nil ?_
 refine WA_tk 1 (by kernel_rfl) rfl rfl (fl_nilCheck rfl) ?_
 refine WL_nilCheck rfl rfl ?_
 refine WL_nil ?_
 refine WA_tk 2 (by kernel_rfl) rfl rfl (fl_field Try.underlying46 rfl rfl (fun w => ⟨_, Try.sizeOf3 w⟩) rfl) ?_
 refine WL_field Try.underlying46 rfl rfl (fun w => ⟨_, Try.sizeOf3 w⟩) rfl rfl ?_
 refine WL_nil ?_
 refine WA_tk 4 (by kernel_rfl) rfl rfl (fl_move rfl) ?_
 refine WL_move rfl rfl ?_
 refine WL_nil ?_
 refine WA_tk 5 (by kernel_rfl) rfl rfl (fl_nilCheck rfl) ?_
 refine WL_nilCheck rfl rfl ?_
 refine WL_nil ?_
 refine WA_tk 6 (by kernel_rfl) rfl rfl (fl_field Try.underlying46 rfl rfl (fun w => ⟨_, Try.sizeOf22 w⟩) rfl) ?_
 refine WL_field Try.underlying46 rfl rfl (fun w => ⟨_, Try.sizeOf22 w⟩) rfl rfl ?_
 refine WL_nil ?_
 refine WA.sub (l' := [(0, (ptr pb1 0)), (2, (.int .i64 0)), (3, (.int .i64 (band (bxor (shr (w64 ((w64 (a1.2.2 * 6364136223846793005)) + 1442695040888963407)) 33) (shr (w64 ((w64 (a1.2.2 * 6364136223846793005)) + 1442695040888963407)) 45)) 255))), (4, (ptr pb1 0)), (5, (ptr pb1 0)), (6, (ptr pb1 0)), (7, (ptr pb1 2)), (8, (.int .i64 a1.2.2)), (9, (.int .i64 (w64 (a1.2.2 * 6364136223846793005)))), (10, (.int .i64 (w64 ((w64 (a1.2.2 * 6364136223846793005)) + 1442695040888963407)))), (11, (ptr pb1 0)), (12, (ptr pb1 2)), (13, (ptr pb1 0)), (14, (ptr pb1 0)), (15, (ptr pb1 2)), (16, (.int .i64 (w64 ((w64 (a1.2.2 * 6364136223846793005)) + 1442695040888963407)))), (17, (.int .i64 (shr (w64 ((w64 (a1.2.2 * 6364136223846793005)) + 1442695040888963407)) 33))), (18, (ptr pb1 0)), (19, (ptr pb1 0)), (20, (ptr pb1 2)), (21, (.int .i64 (w64 ((w64 (a1.2.2 * 6364136223846793005)) + 1442695040888963407)))), (22, (.int .i64 (shr (w64 ((w64 (a1.2.2 * 6364136223846793005)) + 1442695040888963407)) 45))), (23, (.int .i64 (bxor (shr (w64 ((w64 (a1.2.2 * 6364136223846793005)) + 1442695040888963407)) 33) (shr (w64 ((w64 (a1.2.2 * 6364136223846793005)) + 1442695040888963407)) 45)))), (24, (.int .i64 (band (bxor (shr (w64 ((w64 (a1.2.2 * 6364136223846793005)) + 1442695040888963407)) 33) (shr (w64 ((w64 (a1.2.2 * 6364136223846793005)) + 1442695040888963407)) 45)) 255))), (25, (ptr pb1 0)), (26, (ptr pb1 0)), (27, (ptr pb1 1)), (29, (ptr pb1 0)), (30, (ptr pb1 0)), (31, (ptr pb1 0))]) ?_ ⟨rfl, rfl, rfl, rfl, rfl, rfl, rfl, rfl, rfl, rfl, rfl, rfl, rfl, rfl, rfl, rfl, rfl, rfl, rfl, rfl, rfl, rfl, rfl, rfl, rfl, rfl, rfl, rfl, rfl, rfl, trivial⟩
 refine WA_postsE [⟨3, [], fun vs => PW.val (.int .i64 a1.2.1), []⟩, ⟨7, [], fun vs => PW.val u1, []⟩, ⟨8, [], fun vs => PW.val (.int .i64 (List.length a1.1 : Int)), []⟩] [[], [], [7]] 1 rfl (by kernel_rfl) (by kernel_rfl) rfl ?_ ?_
 ·refine StepsE_cons rfl ?_ ?_
  ·intro w6 hB5
   refine DepsE_nil ?_
   refine ⟨_, rfl, ?_⟩
   refine WL_load_box (hC4.grow hB5) 0 rfl rfl Try.isAgg3 rfl rfl ?_
   refine WL_nil ?_
   exact FinE_val (Below.refl _ _) rfl rfl ⟨rfl, rfl⟩
  refine StepsE_cons rfl ?_ ?_
  ·intro w6 hB5
   refine DepsE_nil ?_
   refine ⟨_, rfl, ?_⟩
   refine WL_load_box (hC4.grow hB5) 0 rfl rfl Try.isAgg22 rfl rfl ?_
   refine WL_nil ?_
   exact FinE_val (Below.refl _ _) rfl rfl ⟨rfl, rfl⟩
  refine StepsE_cons rfl ?_ ?_
  ·intro w6 hB5
   refine DepsE_cons rfl rfl rfl ?_
   rintro _ _ ⟨rfl, rfl⟩ _
   refine DepsE_nil ?_
   refine ⟨_, rfl, ?_⟩
   refine WL_len Try.underlying22 g1 rfl rfl ?_
   refine WL_nil ?_
   exact FinE_val (Below.refl _ _) rfl rfl ⟨rfl, rfl⟩
  exact StepsE_nil
 intro w7 hB6
 refine AllE_cons rfl rfl rfl ?_
 rintro _ _ ⟨rfl, rfl⟩
 refine AllE_cons rfl rfl rfl ?_
 rintro _ _ ⟨rfl, rfl⟩
 refine AllE_cons rfl rfl rfl ?_
 rintro _ _ ⟨rfl, rfl⟩
 refine AllE_nil ?_
 intro hn2 hb2
 have hC5 := hC4.grow hB6
 refine WA_tk 9 (by kernel_rfl) rfl rfl (fl_lss rfl rfl) ?_
 refine WL_lss rfl rfl rfl ?_
 refine WL_nil ?_
 refine WA_done (by kernel_rfl) ?_
 refine nrm_normal ?_
 obtain ⟨r1, hr1, hF⟩ := bind_some hF
 refine W_norm (fun l w => ∃ x1 : Int, ∃ x2 : Int, ∃ x3 : Int, (x1, x2, x3) = r1 ∧ l = [(3, (.int .i64 x3))] ∧ Ctx Fs.flatten w0 w [Item.box pb1 [u1, (.int .i64 x1), (.int .i64 x2)]]) ?_ ?_
 ·refine W_cond rfl (fun hc1 => ?_) (fun hc1 => ?_)
  ·replace hr1 := ite_t hr1 hc1
   refine W_seq ?_
   refine W_drawn 15 rfl hmix (fun w10 hB8 => ?_)
   have hC7 := hC5.grow hB8
   refine WA_tk 0 (by kernel_rfl) rfl rfl (fl_move rfl) ?_
   refine WL_move rfl rfl ?_
   refine WL_nil ?_
   refine WA_tk 1 (by kernel_rfl) rfl rfl (fl_move rfl) ?_
   refine WL_move rfl rfl ?_
   refine WL_nil ?_
   refine WA_tk 2 (by kernel_rfl) rfl rfl (fl_nilCheck rfl) ?_
   refine WL_nilCheck rfl rfl ?_
   refine WL_nil ?_
   refine WA_tk 3 (by kernel_rfl) rfl rfl (fl_field Try.underlying46 rfl rfl (fun w => ⟨_, Try.sizeOf22 w⟩) rfl) ?_
   refine WL_field Try.underlying46 rfl rfl (fun w => ⟨_, Try.sizeOf22 w⟩) rfl rfl ?_
   refine WL_nil ?_
   refine WA_tk 5 (by kernel_rfl) rfl rfl (fl_move rfl) ?_
   refine WL_move rfl rfl ?_
   refine WL_nil ?_
   refine WA_tk 6 (by kernel_rfl) rfl rfl (fl_nilCheck rfl) ?_
   refine WL_nilCheck rfl rfl ?_
   refine WL_nil ?_
   refine WA_tk 7 (by kernel_rfl) rfl rfl (fl_field Try.underlying46 rfl rfl (fun w => ⟨_, Try.sizeOf3 w⟩) rfl) ?_
   refine WL_field Try.underlying46 rfl rfl (fun w => ⟨_, Try.sizeOf3 w⟩) rfl rfl ?_
   refine WL_nil ?_
   refine WA.sub (l' := [(0, (ptr pb1 0)), (2, (.int .i64 0)), (3, (.int .i64 (band (bxor (shr (w64 ((w64 (a1.2.2 * 6364136223846793005)) + 1442695040888963407)) 33) (shr (w64 ((w64 (a1.2.2 * 6364136223846793005)) + 1442695040888963407)) 45)) 255))), (4, (ptr pb1 0)), (5, (ptr pb1 0)), (6, (ptr pb1 0)), (7, (ptr pb1 2)), (8, (.int .i64 a1.2.2)), (9, (.int .i64 (w64 (a1.2.2 * 6364136223846793005)))), (10, (.int .i64 (w64 ((w64 (a1.2.2 * 6364136223846793005)) + 1442695040888963407)))), (11, (ptr pb1 0)), (12, (ptr pb1 2)), (13, (ptr pb1 0)), (14, (ptr pb1 0)), (15, (ptr pb1 2)), (16, (.int .i64 (w64 ((w64 (a1.2.2 * 6364136223846793005)) + 1442695040888963407)))), (17, (.int .i64 (shr (w64 ((w64 (a1.2.2 * 6364136223846793005)) + 1442695040888963407)) 33))), (18, (ptr pb1 0)), (19, (ptr pb1 0)), (20, (ptr pb1 2)), (21, (.int .i64 (w64 ((w64 (a1.2.2 * 6364136223846793005)) + 1442695040888963407)))), (22, (.int .i64 (shr (w64 ((w64 (a1.2.2 * 6364136223846793005)) + 1442695040888963407)) 45))), (23, (.int .i64 (bxor (shr (w64 ((w64 (a1.2.2 * 6364136223846793005)) + 1442695040888963407)) 33) (shr (w64 ((w64 (a1.2.2 * 6364136223846793005)) + 1442695040888963407)) 45)))), (24, (.int .i64 (band (bxor (shr (w64 ((w64 (a1.2.2 * 6364136223846793005)) + 1442695040888963407)) 33) (shr (w64 ((w64 (a1.2.2 * 6364136223846793005)) + 1442695040888963407)) 45)) 255))), (25, (ptr pb1 0)), (26, (ptr pb1 0)), (27, (ptr pb1 1)), (28, (.int .i64 a1.2.1)), (29, (ptr pb1 0)), (30, (ptr pb1 0)), (31, (ptr pb1 0)), (32, u1), (33, (.int .i64 (List.length a1.1 : Int))), (34, (.bool (decide (a1.2.1 < (List.length a1.1 : Int))))), (35, (.int .i64 (band (bxor (shr (w64 ((w64 (a1.2.2 * 6364136223846793005)) + 1442695040888963407)) 33) (shr (w64 ((w64 (a1.2.2 * 6364136223846793005)) + 1442695040888963407)) 45)) 255))), (36, (ptr pb1 0)), (37, (ptr pb1 0)), (38, (ptr pb1 0)), (40, (ptr pb1 0)), (41, (ptr pb1 0)), (42, (ptr pb1 1))]) ?_ ⟨rfl, rfl, rfl, rfl, rfl, rfl, rfl, rfl, rfl, rfl, rfl, rfl, rfl, rfl, rfl, rfl, rfl, rfl, rfl, rfl, rfl, rfl, rfl, rfl, rfl, rfl, rfl, rfl, rfl, rfl, rfl, rfl, rfl, rfl, rfl, rfl, rfl, rfl, rfl, rfl, rfl, trivial⟩
   refine WA_postsE [⟨4, [], fun vs => PW.val u1, []⟩, ⟨8, [], fun vs => PW.val (.int .i64 a1.2.1), []⟩] [[], []] 6 rfl (by kernel_rfl) (by kernel_rfl) rfl ?_ ?_
   ·refine StepsE_cons rfl ?_ ?_
    ·intro w11 hB9
     refine DepsE_nil ?_
     refine ⟨_, rfl, ?_⟩
     refine WL_load_box (hC7.grow hB9) 0 rfl rfl Try.isAgg22 rfl rfl ?_
     refine WL_nil ?_
     exact FinE_val (Below.refl _ _) rfl rfl ⟨rfl, rfl⟩
    refine StepsE_cons rfl ?_ ?_
    ·intro w11 hB9
     refine DepsE_nil ?_
     refine ⟨_, rfl, ?_⟩
     refine WL_load_box (hC7.grow hB9) 0 rfl rfl Try.isAgg3 rfl rfl ?_
     refine WL_nil ?_
     exact FinE_val (Below.refl _ _) rfl rfl ⟨rfl, rfl⟩
    exact StepsE_nil
   intro w12 hB10
   refine AllE_cons rfl rfl rfl ?_
   rintro _ _ ⟨rfl, rfl⟩
   refine AllE_cons rfl rfl rfl ?_
   rintro _ _ ⟨rfl, rfl⟩
   refine AllE_nil ?_
   intro hn3 hb3
   have hC8 := hC7.grow hB10
   obtain ⟨x4, hx1, hr1⟩ := bind_some hr1
   refine WA_tk 9 (by kernel_rfl) rfl rfl (fl_index Try.underlying22 ty5 g1 hx1 rfl rfl) ?_
   refine WL_index Try.underlying22 ty5 g1 hx1 rfl rfl rfl (fun b1 o1 h1 => ?_)
   refine WL_nil ?_
   refine WA_one 10 (by kernel_rfl) rfl ?_
   refine WL_load ty5 h1 hC8.keep rfl rfl (fun v1 h2 => ?_)
   obtain rfl := ro_u8 h2
   refine WL_nil ?_
   refine WA_tk 11 (by kernel_rfl) rfl rfl (fl_conv_int Try.underlying5 Try.underlying3 rfl) ?_
   refine WL_conv_i64 Try.underlying5 Try.underlying3 rfl rfl ?_
   refine WL_nil ?_
   refine WA_tk 12 (by kernel_rfl) rfl rfl (fl_add rfl rfl) ?_
   refine WL_add rfl rfl rfl ?_
   refine WL_nil ?_
   refine WA_tk 13 (by kernel_rfl) rfl rfl (fl_band rfl rfl) ?_
   refine WL_band rfl rfl rfl ?_
   refine WL_nil ?_
   refine WA_tk 14 (by kernel_rfl) rfl rfl (fl_assign rfl) ?_
   refine WL_assign rfl rfl ?_
   refine WL_nil ?_
   refine WA_done (by kernel_rfl) ?_
   refine nrm_normal ?_
   refine W_reg ?_
   refine WL_move rfl rfl ?_
   refine WL_move rfl rfl ?_
   refine WL_nilCheck rfl rfl ?_
   refine WL_field Try.underlying46 rfl rfl (fun w => ⟨_, Try.sizeOf3 w⟩) rfl rfl ?_
   refine WL_load_box hC8 0 rfl rfl Try.isAgg3 rfl rfl ?_
   refine WL_add rfl rfl rfl ?_
   refine WL_nilCheck rfl rfl ?_
   refine WL_field Try.underlying46 rfl rfl (fun w => ⟨_, Try.sizeOf3 w⟩) rfl rfl ?_
   refine WL_store_box (cs' := [u1, (.int .i64 (w64 (a1.2.1 + 1))), (.int .i64 (w64 ((w64 (a1.2.2 * 6364136223846793005)) + 1442695040888963407)))]) hC8 0 rfl rfl rfl rfl Try.sizeOf3 rfl rfl (fun w13 hC9 => ?_)
   try dsimp only [List.set] at hC9
   refine WL_nil ?_
   have hq1 := Option.some.inj hr1
   subst hq1
   refine nrm_sub (l' := [(3, (.int .i64 (band (w64 ((band (bxor (shr (w64 ((w64 (a1.2.2 * 6364136223846793005)) + 1442695040888963407)) 33) (shr (w64 ((w64 (a1.2.2 * 6364136223846793005)) + 1442695040888963407)) 45)) 255) + (w64 (UInt8.toNat x4 : Int)))) 255)))]) ⟨rfl, trivial⟩ ?_
   exact ⟨w64 (a1.2.1 + 1), w64 ((w64 (a1.2.2 * 6364136223846793005)) + 1442695040888963407), band (w64 ((band (bxor (shr (w64 ((w64 (a1.2.2 * 6364136223846793005)) + 1442695040888963407)) 33) (shr (w64 ((w64 (a1.2.2 * 6364136223846793005)) + 1442695040888963407)) 45)) 255) + (w64 (UInt8.toNat x4 : Int)))) 255, rfl, rfl, hC9⟩
  replace hr1 := ite_f hr1 hc1
  refine W_skip ?_
  have hq2 := Option.some.inj hr1
  subst hq2
  refine nrm_sub (l' := [(3, (.int .i64 (band (bxor (shr (w64 ((w64 (a1.2.2 * 6364136223846793005)) + 1442695040888963407)) 33) (shr (w64 ((w64 (a1.2.2 * 6364136223846793005)) + 1442695040888963407)) 45)) 255)))]) ⟨rfl, trivial⟩ ?_
  exact ⟨a1.2.1, w64 ((w64 (a1.2.2 * 6364136223846793005)) + 1442695040888963407), band (bxor (shr (w64 ((w64 (a1.2.2 * 6364136223846793005)) + 1442695040888963407)) 33) (shr (w64 ((w64 (a1.2.2 * 6364136223846793005)) + 1442695040888963407)) 45)) 255, rfl, rfl, hC5⟩
 rintro l1 _ w9 hs1 ⟨x1, x2, x3, rfl, rfl, hC6⟩
 try dsimp only at hF
 refine nrm_sub' hs1 ?_
 clear hs1
 refine W_seq_reg ?_
 refine WL_move rfl rfl ?_
 refine WL_assign rfl rfl ?_
 refine WL_nil ?_
 refine W_ret ?_
 have hq3 := Option.some.inj hF
 subst hq3
 refine fn_ret1 rfl rfl ?_
 exact ⟨_, rfl, rfl, hC6⟩

theorem c_S_l1Below {w0 : World} {Fs : List (List Nat)} (pb1 : Nat) (a1 : ((List UInt8) × Int × Int)) (u1 : Value) (g1 : RO Fs.flatten w0 u1 a1.1) (a2 : Int) (hH : Hold [Item.box pb1 [u1, (.int .i64 a1.2.1), (.int .i64 a1.2.2)]] w0 Fs) (hn : Fs.flatten.Nodup) (rr : (Int × ((List UInt8) × Int × Int))) (hF : S.l1Below a1 a2 = some rr) :
 Calls Try.prog 15 [(ptr pb1 0), (.int .i64 a2)].toArray w0 fun e w' => ∃ v, e = .returned v ∧ v = (.int .i64 rr.1) ∧ Ctx Fs.flatten w0 w' [Item.box pb1 [u1, (.int .i64 rr.2.2.1), (.int .i64 rr.2.2.2)]] := by
 refine calls_of_W Try.func15 rfl rfl ?_
 have hC0 := Ctx.startIn hH hn
 unfold S.l1Below at hF
 refine W_seq_reg ?_
 refine WL_assign rfl rfl ?_
 refine WL_nil ?_
 refine W_seq ?_
 refine W_seq_reg ?_
 refine WL_move rfl rfl ?_
 refine WL_leq rfl rfl rfl ?_
 refine WL_nil ?_
 refine W_cond rfl (fun hc1 => ?_) (fun hc1 => ?_)
 ·replace hF := ite_t hF hc1
  refine W_seq_reg ?_
  refine WL_assign rfl rfl ?_
  refine WL_nil ?_
  refine W_ret ?_
  refine nrm_ret ?_
  have hq1 := Option.some.inj hF
  subst hq1
  refine fn_ret1 rfl rfl ?_
  exact ⟨_, rfl, rfl, hC0⟩
 replace hF := ite_f hF hc1
 refine W_skip ?_
 refine nrm_normal ?_
 refine W_seq ?_
 refine W_seq_reg ?_
 refine WL_move rfl rfl ?_
 refine WL_leq rfl rfl rfl ?_
 refine WL_nil ?_
 refine W_cond rfl (fun hc2 => ?_) (fun hc2 => ?_)
 ·replace hF := ite_t hF hc2
  refine W_seq_reg ?_
  refine WL_move rfl rfl ?_
  obtain ⟨x1, hr1, hF⟩ := bind_some hF
  obtain ⟨Fs1, hH1, hn1, hF1, hO1, hb1⟩ := Ctx.lend2 (As := []) [Item.box pb1 [u1, (.int .i64 a1.2.1), (.int .i64 a1.2.2)]] hC0
  refine WL_call Try.call27 rfl rfl (c_S_l1Byte pb1 (a1.1, a1.2.1, a1.2.2) u1 (RO.lent g1 hC0.keep hF1) hH1 hn1 x1 hr1) ?_
  rintro _ w1 ⟨rfl, hq2⟩
  have hC1 : Ctx Fs.flatten w0 w1 [Item.box pb1 [u1, (.int .i64 x1.2.2.1), (.int .i64 x1.2.2.2)]] := hb1 _ _ hq2
  refine WL_move rfl rfl ?_
  obtain ⟨_, hx1, hF⟩ := bind_some hF
  refine WL_rem (nz_some hx1) rfl rfl rfl ?_
  refine WL_assign rfl rfl ?_
  refine WL_nil ?_
  refine W_ret ?_
  refine nrm_ret ?_
  have hq3 := Option.some.inj hF
  subst hq3
  refine fn_ret1 rfl rfl ?_
  exact ⟨_, rfl, rfl, hC1⟩
 replace hF := ite_f hF hc2
 refine W_skip ?_
 refine nrm_normal ?_
 refine W_seq_reg ?_
 refine WL_move rfl rfl ?_
 obtain ⟨x2, hr2, hF⟩ := bind_some hF
 obtain ⟨Fs2, hH2, hn2, hF2, hO2, hb2⟩ := Ctx.lend2 (As := []) [Item.box pb1 [u1, (.int .i64 a1.2.1), (.int .i64 a1.2.2)]] hC0
 refine WL_call Try.call27 rfl rfl (c_S_l1Byte pb1 (a1.1, a1.2.1, a1.2.2) u1 (RO.lent g1 hC0.keep hF2) hH2 hn2 x2 hr2) ?_
 rintro _ w2 ⟨rfl, hq4⟩
 have hC2 : Ctx Fs.flatten w0 w2 [Item.box pb1 [u1, (.int .i64 x2.2.2.1), (.int .i64 x2.2.2.2)]] := hb2 _ _ hq4
 refine WL_assign rfl rfl ?_
 refine WL_nil ?_
 refine W_seq_reg ?_
 refine WL_move rfl rfl ?_
 obtain ⟨x3, hr3, hF⟩ := bind_some hF
 obtain ⟨Fs3, hH3, hn3, hF3, hO3, hb3⟩ := Ctx.lend2 (As := []) [Item.box pb1 [u1, (.int .i64 x2.2.2.1), (.int .i64 x2.2.2.2)]] hC2
 refine WL_call Try.call27 rfl rfl (c_S_l1Byte pb1 (a1.1, x2.2.2.1, x2.2.2.2) u1 (RO.lent g1 hC2.keep hF3) hH3 hn3 x3 hr3) ?_
 rintro _ w3 ⟨rfl, hq5⟩
 have hC3 : Ctx Fs.flatten w0 w3 [Item.box pb1 [u1, (.int .i64 x3.2.2.1), (.int .i64 x3.2.2.2)]] := hb3 _ _ hq5
 refine WL_assign rfl rfl ?_
 refine WL_nil ?_
 refine W_seq_reg ?_
 refine WL_move rfl rfl ?_
 obtain ⟨x4, hr4, hF⟩ := bind_some hF
 obtain ⟨Fs4, hH4, hn4, hF4, hO4, hb4⟩ := Ctx.lend2 (As := []) [Item.box pb1 [u1, (.int .i64 x3.2.2.1), (.int .i64 x3.2.2.2)]] hC3
 refine WL_call Try.call27 rfl rfl (c_S_l1Byte pb1 (a1.1, x3.2.2.1, x3.2.2.2) u1 (RO.lent g1 hC3.keep hF4) hH4 hn4 x4 hr4) ?_
 rintro _ w4 ⟨rfl, hq6⟩
 have hC4 : Ctx Fs.flatten w0 w4 [Item.box pb1 [u1, (.int .i64 x4.2.2.1), (.int .i64 x4.2.2.2)]] := hb4 _ _ hq6
 refine WL_assign rfl rfl ?_
 refine WL_nil ?_
 refine W_seq_reg ?_
 refine WL_move rfl rfl ?_
 obtain ⟨x5, hr5, hF⟩ := bind_some hF
 obtain ⟨Fs5, hH5, hn5, hF5, hO5, hb5⟩ := Ctx.lend2 (As := []) [Item.box pb1 [u1, (.int .i64 x4.2.2.1), (.int .i64 x4.2.2.2)]] hC4
 refine WL_call Try.call27 rfl rfl (c_S_l1Byte pb1 (a1.1, x4.2.2.1, x4.2.2.2) u1 (RO.lent g1 hC4.keep hF5) hH5 hn5 x5 hr5) ?_
 rintro _ w5 ⟨rfl, hq7⟩
 have hC5 : Ctx Fs.flatten w0 w5 [Item.box pb1 [u1, (.int .i64 x5.2.2.1), (.int .i64 x5.2.2.2)]] := hb5 _ _ hq7
 refine WL_assign rfl rfl ?_
 refine WL_nil ?_
 refine W_seq_reg ?_
 refine WL_move rfl rfl ?_
 refine WL_mul rfl rfl rfl ?_
 refine WL_move rfl rfl ?_
 refine WL_mul rfl rfl rfl ?_
 refine WL_add rfl rfl rfl ?_
 refine WL_move rfl rfl ?_
 refine WL_mul rfl rfl rfl ?_
 refine WL_add rfl rfl rfl ?_
 refine WL_move rfl rfl ?_
 refine WL_add rfl rfl rfl ?_
 refine WL_move rfl rfl ?_
 obtain ⟨_, hx2, hF⟩ := bind_some hF
 refine WL_rem (nz_some hx2) rfl rfl rfl ?_
 refine WL_assign rfl rfl ?_
 refine WL_nil ?_
 refine W_ret ?_
 have hq8 := Option.some.inj hF
 subst hq8
 refine fn_ret1 rfl rfl ?_
 exact ⟨_, rfl, rfl, hC5⟩

theorem c_S_FormatInt {w0 : World} (a1 : Int) (rr : Str) (hF : S.FormatInt a1 = some rr) :
 Calls Try.prog 38 [(.int .i64 a1)].toArray w0 fun e w' => ∃ v, e = .returned v ∧ Res w0 rr v w' := by
 refine calls_of_W Try.func38 rfl rfl ?_
 have hC0 := Ctx.start w0
 unfold S.FormatInt at hF
 refine W_seq_reg ?_
 refine WL_assign rfl rfl ?_
 refine WL_nil ?_
 refine W_seq ?_
 refine W_seq_reg ?_
 refine WL_move rfl rfl ?_
 refine WL_eql rfl rfl rfl ?_
 refine WL_nil ?_
 refine W_cond rfl (fun hc1 => ?_) (fun hc1 => ?_)
 ·replace hF := ite_t hF hc1
  refine W_seq_reg ?_
  refine WL_assign rfl rfl ?_
  refine WL_nil ?_
  refine W_ret ?_
  refine nrm_ret ?_
  have hq1 := Option.some.inj hF
  subst hq1
  refine fn_ret1 rfl rfl ?_
  exact ⟨_, rfl, str_res hC0 _⟩
 replace hF := ite_f hF hc1
 refine W_skip ?_
 refine nrm_normal ?_
 refine W_seq_reg ?_
 refine WL_assign rfl rfl ?_
 refine WL_nil ?_
 refine W_seq_reg ?_
 refine WL_move rfl rfl ?_
 refine WL_lss rfl rfl rfl ?_
 refine WL_assign rfl rfl ?_
 refine WL_nil ?_
 refine W_seq ?_
 obtain ⟨r1, hr1, hF⟩ := bind_some hF
 refine W_norm (fun l w => ∃ x3 : Str, x3 = r1 ∧ l = [(3, (sv x3)), (4, (.bool (decide (a1 < 0))))] ∧ Below w0.heap.size w0 w ∧ Ctx [] w0 w []) ?_ ?_
 ·refine W_block ?_
  refine W.sub (l' := [(0, (.int .i64 a1)), (3, (sv (str []))), (4, (.bool (decide (a1 < 0))))]) ?_ ⟨rfl, rfl, rfl, trivial⟩
  refine W_loop (fun k l w => ∃ x1 : Int, ∃ x2 : Str, l = [(0, (.int .i64 x1)), (3, (sv x2)), (4, (.bool (decide (a1 < 0))))] ∧ Below w0.heap.size w0 w ∧ Ctx [] w0 w [] ∧ S.FormatInt_l1 k x1 x2 = some r1) FUEL ⟨a1, (str []), rfl, (Below.refl _ _), hC0, hr1⟩ ?_
  clear hr1
  rintro k1 _ w1 ⟨x1, x2, rfl, hB1, hC1, hL1⟩
  cases k1 with
  | zero => rw [S.FormatInt_l1] at hL1; cases hL1
  | succ k1 =>
   rw [S.FormatInt_l1] at hL1
   refine W_seq ?_
   refine W_seq_reg ?_
   refine WL_move rfl rfl ?_
   refine WL_neq rfl rfl rfl ?_
   refine WL_nil ?_
   refine W_cond rfl (fun hc2 => ?_) (fun hc2 => ?_)
   ·replace hL1 := ite_t hL1 hc2
    refine W_skip ?_
    refine nrm_normal ?_
    refine W_block ?_
    refine W_seq_reg ?_
    refine WL_move rfl rfl ?_
    refine WL_rem (by decide) rfl rfl rfl ?_
    refine WL_assign rfl rfl ?_
    refine WL_nil ?_
    refine W_seq ?_
    refine W_seq_reg ?_
    refine WL_move rfl rfl ?_
    refine WL_lss rfl rfl rfl ?_
    refine WL_nil ?_
    obtain ⟨r2, hr2, hL1⟩ := bind_some hL1
    refine W_norm (fun l w => ∃ x4 : Int, x4 = r2 ∧ l = [(0, (.int .i64 x1)), (3, (sv x2)), (4, (.bool (decide (a1 < 0)))), (5, (.int .i64 x4))] ∧ Below w1.heap.size w1 w ∧ Ctx [] w0 w []) ?_ ?_
    ·refine W_cond rfl (fun hc3 => ?_) (fun hc3 => ?_)
     ·replace hr2 := ite_t hr2 hc3
      refine W_reg ?_
      refine WL_move rfl rfl ?_
      refine WL_neg rfl rfl ?_
      refine WL_assign rfl rfl ?_
      refine WL_nil ?_
      have hq2 := Option.some.inj hr2
      subst hq2
      refine nrm_sub (l' := [(0, (.int .i64 x1)), (3, (sv x2)), (4, (.bool (decide (a1 < 0)))), (5, (.int .i64 (w64 (0 - (x1.tmod 10)))))]) ⟨rfl, rfl, rfl, rfl, trivial⟩ ?_
      exact ⟨w64 (0 - (x1.tmod 10)), rfl, rfl, (Below.refl _ _), hC1⟩
     replace hr2 := ite_f hr2 hc3
     refine W_skip ?_
     have hq3 := Option.some.inj hr2
     subst hq3
     refine nrm_sub (l' := [(0, (.int .i64 x1)), (3, (sv x2)), (4, (.bool (decide (a1 < 0)))), (5, (.int .i64 (x1.tmod 10)))]) ⟨rfl, rfl, rfl, rfl, trivial⟩ ?_
     exact ⟨x1.tmod 10, rfl, rfl, (Below.refl _ _), hC1⟩
    rintro l2 _ w2 hs2 ⟨x4, rfl, rfl, hB2, hC2⟩
    try dsimp only at hL1
    refine nrm_sub' hs2 ?_
    clear hs2
    refine W_seq_reg ?_
    refine WL_move rfl rfl ?_
    refine WL_add rfl rfl rfl ?_
    refine WL_conv_u8 Try.underlying3 Try.underlying5 rfl rfl ?_
    refine WL_buildSlice (vs := [(.int .u8 (w8 (w64 (48 + x4))))]) hC2 Try.underlying22 ty5 rfl rfl rfl rfl (by intro v hv; simp only [List.mem_cons, List.not_mem_nil, or_false] at hv; rcases hv with rfl <;> rfl) rfl rfl (fun b1 w3 hC3 hB3 => ?_)
    have hC4 := hC3.row0 (α := UInt8)
    have hC5 := hC4.triv (u8_val (w64 (48 + x4)))
    have hC6 := hC5.row1
    have hC7 := hC6.front 1 rfl
    dsimp only [List.eraseIdx, List.cons_append, List.nil_append, List.append_nil] at hC7
    have hC8 : Ctx [] w0 w3 (Item.own (.slice (some ⟨b1, 0, none⟩) 1 1) ([(u8 (w64 (48 + x4)))] : List UInt8) :: []) := hC7.rowOwn (by simp [maxLen])
    refine WL_conv_bytes Try.underlying22 Try.underlying5 Try.underlying9 (hC8.ro 0 rfl) (Keep.refl _ _) rfl rfl ?_
    refine WL_move rfl rfl ?_
    obtain ⟨x5, hx1, hL1⟩ := bind_some hL1
    refine WL_str_add hx1 rfl rfl rfl ?_
    refine WL_assign rfl rfl ?_
    refine WL_nil ?_
    refine W_reg ?_
    refine WL_move rfl rfl ?_
    refine WL_quo (by decide) rfl rfl rfl ?_
    refine WL_assign rfl rfl ?_
    refine WL_nil ?_
    refine blk_normal ?_
    have hC9 := hC8.h0
    refine nrm_sub (l' := [(0, (.int .i64 (w64 (x1.tdiv 10)))), (3, (sv x5)), (4, (.bool (decide (a1 < 0))))]) ⟨rfl, rfl, rfl, trivial⟩ ?_
    exact ⟨k1, Nat.lt_succ_self _, w64 (x1.tdiv 10), x5, rfl, (((Keep.of hB1).then hB2).then hB3).below, hC9, hL1⟩
   replace hL1 := ite_f hL1 hc2
   refine W_exit ?_
   refine nrm_exit ?_
   refine nrm_exit ?_
   refine blk_exit ?_
   have hq4 := Option.some.inj hL1
   subst hq4
   refine nrm_sub (l' := [(3, (sv x2)), (4, (.bool (decide (a1 < 0))))]) ⟨rfl, rfl, trivial⟩ ?_
   exact ⟨x2, rfl, rfl, (Keep.of hB1).below, hC1⟩
 rintro l3 _ w4 hs3 ⟨x3, rfl, rfl, hB4, hC10⟩
 try dsimp only at hF
 refine nrm_sub' hs3 ?_
 clear hs3
 refine W_seq ?_
 refine W_seq_reg ?_
 refine WL_move rfl rfl ?_
 refine WL_nil ?_
 refine W_cond rfl (fun hc4 => ?_) (fun hc4 => ?_)
 ·replace hF := ite_t hF hc4
  refine W_seq_reg ?_
  refine WL_move rfl rfl ?_
  obtain ⟨x6, hx2, hF⟩ := bind_some hF
  refine WL_str_add hx2 rfl rfl rfl ?_
  refine WL_assign rfl rfl ?_
  refine WL_nil ?_
  refine W_ret ?_
  refine nrm_ret ?_
  have hq5 := Option.some.inj hF
  subst hq5
  refine fn_ret1 rfl rfl ?_
  exact ⟨_, rfl, str_res hC10 _⟩
 replace hF := ite_f hF hc4
 refine W_skip ?_
 refine nrm_normal ?_
 refine W_seq_reg ?_
 refine WL_move rfl rfl ?_
 refine WL_assign rfl rfl ?_
 refine WL_nil ?_
 refine W_ret ?_
 have hq6 := Option.some.inj hF
 subst hq6
 refine fn_ret1 rfl rfl ?_
 exact ⟨_, rfl, str_res hC10 _⟩

theorem c_S_l2List {w0 : World} (a1 : (List Int)) (u1 : Value) (g1 : RO [] w0 u1 a1) (rr : Str) (hF : S.l2List a1 = some rr) :
 Calls Try.prog 39 [u1].toArray w0 fun e w' => ∃ v, e = .returned v ∧ Res w0 rr v w' := by
 refine calls_of_W Try.func39 rfl rfl ?_
 have hC0 := Ctx.start w0
 unfold S.l2List at hF
 refine W_seq_reg ?_
 refine WL_assign rfl rfl ?_
 refine WL_nil ?_
 refine W_seq_reg ?_
 refine WL_assign rfl rfl ?_
 refine WL_nil ?_
 refine W_seq ?_
 refine W_seq_reg ?_
 refine WL_assign rfl rfl ?_
 refine WL_nil ?_
 obtain ⟨r1, hr1, hF⟩ := bind_some hF
 refine W_norm (fun l w => ∃ x3 : Str, x3 = r1 ∧ l = [(3, (sv x3))] ∧ Below w0.heap.size w0 w ∧ Ctx [] w0 w []) ?_ ?_
 ·refine W_block ?_
  refine W.sub (l' := [(0, u1), (3, (sv (str []))), (4, (.int .i64 0))]) ?_ ⟨rfl, rfl, rfl, trivial⟩
  refine W_loop (fun k l w => ∃ x1 : Str, ∃ x2 : Int, l = [(0, u1), (3, (sv x1)), (4, (.int .i64 x2))] ∧ Below w0.heap.size w0 w ∧ Ctx [] w0 w [] ∧ S.l2List_l1 a1 k x1 x2 = some r1) FUEL ⟨(str []), 0, rfl, (Below.refl _ _), hC0, hr1⟩ ?_
  clear hr1
  rintro k1 _ w1 ⟨x1, x2, rfl, hB1, hC1, hL1⟩
  cases k1 with
  | zero => rw [S.l2List_l1] at hL1; cases hL1
  | succ k1 =>
   rw [S.l2List_l1] at hL1
   refine W_seq ?_
   refine W_seq_reg ?_
   refine WL_move rfl rfl ?_
   refine WL_move rfl rfl ?_
   refine WL_len Try.underlying35 g1 rfl rfl ?_
   refine WL_lss rfl rfl rfl ?_
   refine WL_nil ?_
   refine W_cond rfl (fun hc1 => ?_) (fun hc1 => ?_)
   ·replace hL1 := ite_t hL1 hc1
    refine W_skip ?_
    refine nrm_normal ?_
    refine W_seq ?_
    refine W_block ?_
    refine W_seq ?_
    refine W_seq_reg ?_
    refine WL_move rfl rfl ?_
    refine WL_gtr rfl rfl rfl ?_
    refine WL_nil ?_
    obtain ⟨r2, hr2, hL1⟩ := bind_some hL1
    refine W_norm (fun l w => ∃ x4 : Str, x4 = r2 ∧ l = [(0, u1), (3, (sv x4)), (4, (.int .i64 x2))] ∧ Below w1.heap.size w1 w ∧ Ctx [] w0 w []) ?_ ?_
    ·refine W_cond rfl (fun hc2 => ?_) (fun hc2 => ?_)
     ·replace hr2 := ite_t hr2 hc2
      refine W_reg ?_
      refine WL_move rfl rfl ?_
      obtain ⟨x5, hx1, hr2⟩ := bind_some hr2
      refine WL_str_add hx1 rfl rfl rfl ?_
      refine WL_assign rfl rfl ?_
      refine WL_nil ?_
      have hq1 := Option.some.inj hr2
      subst hq1
      refine nrm_sub (l' := [(0, u1), (3, (sv x5)), (4, (.int .i64 x2))]) ⟨rfl, rfl, rfl, trivial⟩ ?_
      exact ⟨x5, rfl, rfl, (Below.refl _ _), hC1⟩
     replace hr2 := ite_f hr2 hc2
     refine W_skip ?_
     have hq2 := Option.some.inj hr2
     subst hq2
     refine nrm_sub (l' := [(0, u1), (3, (sv x1)), (4, (.int .i64 x2))]) ⟨rfl, rfl, rfl, trivial⟩ ?_
     exact ⟨x1, rfl, rfl, (Below.refl _ _), hC1⟩
    rintro l2 _ w2 hs2 ⟨x4, rfl, rfl, hB2, hC2⟩
    try dsimp only at hL1
    refine nrm_sub' hs2 ?_
    clear hs2
    refine W_reg ?_
    refine WL_move rfl rfl ?_
    refine WL_move rfl rfl ?_
    refine WL_move rfl rfl ?_
    obtain ⟨x6, hx2, hL1⟩ := bind_some hL1
    refine WL_index Try.underlying35 ty3 g1 hx2 rfl rfl rfl (fun b1 o1 h1 => ?_)
    refine WL_load ty3 h1 hC2.keep rfl rfl (fun v1 h2 => ?_)
    obtain rfl := ro_int h2
    obtain ⟨x7, hr3, hL1⟩ := bind_some hL1
    refine WL_call Try.call38 rfl rfl (c_S_FormatInt x6 x7 hr3) ?_
    intro _ w3 hv1
    obtain ⟨rfl, hB3⟩ := res_str hv1
    have hC3 := hC2.grow hB3
    obtain ⟨x8, hx3, hL1⟩ := bind_some hL1
    refine WL_str_add hx3 rfl rfl rfl ?_
    refine WL_assign rfl rfl ?_
    refine WL_nil ?_
    refine blk_normal ?_
    refine nrm_normal ?_
    refine W_reg ?_
    refine WL_move rfl rfl ?_
    refine WL_add rfl rfl rfl ?_
    refine WL_assign rfl rfl ?_
    refine WL_nil ?_
    refine nrm_sub (l' := [(0, u1), (3, (sv x8)), (4, (.int .i64 (w64 (x2 + 1))))]) ⟨rfl, rfl, rfl, trivial⟩ ?_
    exact ⟨k1, Nat.lt_succ_self _, x8, w64 (x2 + 1), rfl, (((Keep.of hB1).then hB2).then hB3).below, hC3, hL1⟩
   replace hL1 := ite_f hL1 hc1
   refine W_exit ?_
   refine nrm_exit ?_
   refine nrm_exit ?_
   refine blk_exit ?_
   have hq3 := Option.some.inj hL1
   subst hq3
   refine nrm_sub (l' := [(3, (sv x1))]) ⟨rfl, trivial⟩ ?_
   exact ⟨x1, rfl, rfl, (Keep.of hB1).below, hC1⟩
 rintro l3 _ w4 hs3 ⟨x3, rfl, rfl, hB4, hC4⟩
 try dsimp only at hF
 refine nrm_sub' hs3 ?_
 clear hs3
 refine W_seq_reg ?_
 refine WL_move rfl rfl ?_
 refine WL_assign rfl rfl ?_
 refine WL_nil ?_
 refine W_ret ?_
 have hq4 := Option.some.inj hF
 subst hq4
 refine fn_ret1 rfl rfl ?_
 exact ⟨_, rfl, str_res hC4 _⟩

theorem c_S_FormatAccess {w0 : World} (a1 : (Int × (List Int))) (u1 : Value) (g1 : RO [] w0 u1 a1.2) (rr : Str) (hF : S.FormatAccess a1 = some rr) :
 Calls Try.prog 28 [(.agg #[(.int .i64 a1.1), u1])].toArray w0 fun e w' => ∃ v, e = .returned v ∧ Res w0 rr v w' := by
 refine calls_of_W Try.func28 rfl rfl ?_
 have hC0 := Ctx.start w0
 unfold S.FormatAccess at hF
 refine W_seq_reg ?_
 refine WL_box (cs := [(.int .i64 a1.1), u1]) hC0 rfl rfl rfl (fun b1 w1 hC1 hB1 => ?_)
 refine WL_assign rfl rfl ?_
 refine WL_nil ?_
 refine W_seq ?_
 obtain ⟨r1, hr1, hF⟩ := bind_some hF
 refine W_cut (fun l w => ∃ x1 : Bool, x1 = r1 ∧ l = [(1, (ptr b1 0)), (13, (.bool x1))] ∧ Below w1.heap.size w1 w ∧ Ctx [] w0 w [Item.box b1 [(.int .i64 a1.1), u1]]) ?_ ?_
 ·refine W_reg ?_
  refine WL_field Try.underlying37 rfl rfl (fun w => ⟨_, Try.sizeOf3 w⟩) rfl rfl ?_
  refine WL_load_box hC1 0 rfl rfl Try.isAgg3 rfl rfl ?_
  obtain ⟨x2, hr2, hr1⟩ := bind_some hr1
  refine WL_call Try.call29 rfl rfl (c_S_l1In a1.1 0 4 x2 hr2) ?_
  intro _ w3 hv1
  obtain ⟨rfl, hB3⟩ := res_bool hv1
  have hC3 := hC1.grow hB3
  refine WL_not rfl rfl ?_
  refine WL_move rfl rfl ?_
  refine WL_fork (fun hc1 => ?_) (fun hc1 => ?_)
  ·replace hr1 := ite_t hr1 hc1
   refine WL_guard_skip rfl rfl (by simp) rfl ?_
   refine WL_guard_skip rfl rfl (by simp) rfl ?_
   refine WL_guard_skip rfl rfl (by simp) rfl ?_
   refine WL_guard_skip rfl rfl (by simp) rfl ?_
   refine WL_pick_t rfl rfl rfl ?_
   refine WL_nil ?_
   have hq1 := Option.some.inj hr1
   subst hq1
   refine nrm_sub (l' := [(1, (ptr b1 0)), (13, (.bool true))]) ⟨rfl, rfl, trivial⟩ ?_
   exact ⟨true, rfl, rfl, (Keep.of hB3).below, hC3⟩
  replace hr1 := ite_f hr1 hc1
  refine WL_guard rfl rfl ?_
  refine WL_field Try.underlying37 rfl rfl (fun w => ⟨_, Try.sizeOf35 w⟩) rfl rfl ?_
  refine WL_guard rfl rfl ?_
  refine WL_load_box hC3 0 rfl rfl Try.isAgg35 rfl rfl ?_
  refine WL_guard rfl rfl ?_
  refine WL_len Try.underlying35 g1 rfl rfl ?_
  refine WL_guard rfl rfl ?_
  refine WL_gtr rfl rfl rfl ?_
  refine WL_pick_f rfl rfl rfl ?_
  refine WL_nil ?_
  have hq2 := Option.some.inj hr1
  subst hq2
  refine nrm_sub (l' := [(1, (ptr b1 0)), (13, (.bool (decide (3 < (List.length a1.2 : Int)))))]) ⟨rfl, rfl, trivial⟩ ?_
  exact ⟨(decide (3 < (List.length a1.2 : Int))), rfl, rfl, (Keep.of hB3).below, hC3⟩
 rintro _ w2 ⟨x1, rfl, rfl, hB2, hC2⟩
 try dsimp only at hF
 refine W_cond rfl (fun hc2 => ?_) (fun hc2 => ?_)
 ·replace hF := ite_t hF hc2
  refine W_seq_reg ?_
  refine WL_assign rfl rfl ?_
  refine WL_nil ?_
  refine W_ret ?_
  refine nrm_ret ?_
  have hq3 := Option.some.inj hF
  subst hq3
  refine fn_ret1 rfl rfl ?_
  exact ⟨_, rfl, str_res hC2 _⟩
 replace hF := ite_f hF hc2
 refine W_skip ?_
 refine nrm_normal ?_
 refine W_seq ?_
 refine W_seq_reg ?_
 refine WL_assign rfl rfl ?_
 refine WL_nil ?_
 obtain ⟨r2, hr3, hF⟩ := bind_some hF
 refine W_norm (fun l w => .inl () = r2 ∧ l = [(1, (ptr b1 0))] ∧ Below w2.heap.size w2 w ∧ Ctx [] w0 w [Item.box b1 [(.int .i64 a1.1), u1]]) ?_ ?_
 ·refine W_block ?_
  refine W.sub (l' := [(1, (ptr b1 0)), (3, (.int .i64 0))]) ?_ ⟨rfl, rfl, trivial⟩
  refine W_loop (fun k l w => ∃ x3 : Int, l = [(1, (ptr b1 0)), (3, (.int .i64 x3))] ∧ Below w2.heap.size w2 w ∧ Ctx [] w0 w [Item.box b1 [(.int .i64 a1.1), u1]] ∧ S.FormatAccess_l1 a1 k x3 = some r2) FUEL ⟨0, rfl, (Below.refl _ _), hC2, hr3⟩ ?_
  clear hr3
  rintro k1 _ w4 ⟨x3, rfl, hB4, hC4, hL1⟩
  cases k1 with
  | zero => rw [S.FormatAccess_l1] at hL1; cases hL1
  | succ k1 =>
   rw [S.FormatAccess_l1] at hL1
   refine W_seq ?_
   refine W_seq_reg ?_
   refine WL_move rfl rfl ?_
   refine WL_field Try.underlying37 rfl rfl (fun w => ⟨_, Try.sizeOf35 w⟩) rfl rfl ?_
   refine WL_load_box hC4 0 rfl rfl Try.isAgg35 rfl rfl ?_
   refine WL_len Try.underlying35 g1 rfl rfl ?_
   refine WL_lss rfl rfl rfl ?_
   refine WL_nil ?_
   refine W_cond rfl (fun hc3 => ?_) (fun hc3 => ?_)
   ·replace hL1 := ite_t hL1 hc3
    refine W_skip ?_
    refine nrm_normal ?_
    refine W_seq ?_
    refine W_block ?_
    refine W_seq_reg ?_
    refine WL_field Try.underlying37 rfl rfl (fun w => ⟨_, Try.sizeOf35 w⟩) rfl rfl ?_
    refine WL_load_box hC4 0 rfl rfl Try.isAgg35 rfl rfl ?_
    refine WL_move rfl rfl ?_
    obtain ⟨x4, hx1, hL1⟩ := bind_some hL1
    refine WL_index Try.underlying35 ty3 g1 hx1 rfl rfl rfl (fun b2 o1 h1 => ?_)
    refine WL_load ty3 h1 hC4.keep rfl rfl (fun v1 h2 => ?_)
    obtain rfl := ro_int h2
    obtain ⟨x5, hr4, hL1⟩ := bind_some hL1
    refine WL_call Try.call29 rfl rfl (c_S_l1In x4 0 9 x5 hr4) ?_
    intro _ w5 hv2
    obtain ⟨rfl, hB5⟩ := res_bool hv2
    have hC5 := hC4.grow hB5
    refine WL_not rfl rfl ?_
    refine WL_nil ?_
    refine W_cond rfl (fun hc4 => ?_) (fun hc4 => ?_)
    ·replace hL1 := ite_t hL1 hc4
     refine W_seq_reg ?_
     refine WL_assign rfl rfl ?_
     refine WL_nil ?_
     refine W_ret ?_
     refine blk_ret ?_
     refine nrm_ret ?_
     refine nrm_ret ?_
     refine blk_ret ?_
     refine nrm_ret ?_
     refine nrm_ret ?_
     have hq4 := Option.some.inj hL1
     subst hq4
     dsimp only at hF
     have hq5 := Option.some.inj hF
     subst hq5
     refine fn_ret1 rfl rfl ?_
     exact ⟨_, rfl, str_res hC5 _⟩
    replace hL1 := ite_f hL1 hc4
    refine W_skip ?_
    refine blk_normal ?_
    refine nrm_normal ?_
    refine W_reg ?_
    refine WL_move rfl rfl ?_
    refine WL_add rfl rfl rfl ?_
    refine WL_assign rfl rfl ?_
    refine WL_nil ?_
    refine nrm_sub (l' := [(1, (ptr b1 0)), (3, (.int .i64 (w64 (x3 + 1))))]) ⟨rfl, rfl, trivial⟩ ?_
    exact ⟨k1, Nat.lt_succ_self _, w64 (x3 + 1), rfl, ((Keep.of hB4).then hB5).below, hC5, hL1⟩
   replace hL1 := ite_f hL1 hc3
   refine W_exit ?_
   refine nrm_exit ?_
   refine nrm_exit ?_
   refine blk_exit ?_
   have hq6 := Option.some.inj hL1
   subst hq6
   refine nrm_sub (l' := [(1, (ptr b1 0))]) ⟨rfl, trivial⟩ ?_
   exact ⟨rfl, rfl, (Keep.of hB4).below, hC4⟩
 rintro l3 _ w6 hs3 ⟨rfl, rfl, hB6, hC6⟩
 try dsimp only at hF
 refine nrm_sub' hs3 ?_
 clear hs3
 refine W_seq ?_
 refine W_drawn 11 rfl hmix (fun w7 hB7 => ?_)
 have hC7 := hC6.grow hB7
 refine WA_tk 0 (by kernel_rfl) rfl rfl (fl_field Try.underlying37 rfl rfl (fun w => ⟨_, Try.sizeOf3 w⟩) rfl) ?_
 refine WL_field Try.underlying37 rfl rfl (fun w => ⟨_, Try.sizeOf3 w⟩) rfl rfl ?_
 refine WL_nil ?_
 refine WA_tk 5 (by kernel_rfl) rfl rfl (fl_field Try.underlying37 rfl rfl (fun w => ⟨_, Try.sizeOf35 w⟩) rfl) ?_
 refine WL_field Try.underlying37 rfl rfl (fun w => ⟨_, Try.sizeOf35 w⟩) rfl rfl ?_
 refine WL_nil ?_
 obtain ⟨x6, hr5, hF⟩ := bind_some hF
 obtain ⟨x7, hx2, hF⟩ := bind_some hF
 obtain ⟨x8, hx3, hF⟩ := bind_some hF
 obtain ⟨x9, hr6, hF⟩ := bind_some hF
 refine WA.sub (l' := [(1, (ptr b1 0)), (28, (ptr b1 0)), (33, (ptr b1 1))]) ?_ ⟨rfl, rfl, rfl, trivial⟩
 refine WA_postsE [⟨1, [], fun vs => PW.val (.int .i64 a1.1), []⟩, ⟨2, [], fun vs => PW.val (sv x6), []⟩, ⟨3, [], fun vs => PW.val (sv x7), []⟩, ⟨4, [], fun vs => PW.val (sv x8), []⟩, ⟨6, [], fun vs => PW.val u1, []⟩, ⟨7, [], fun vs => PW.val (sv x9), []⟩] [[], [1], [2], [3], [], [6]] 3 rfl (by kernel_rfl) (by kernel_rfl) rfl ?_ ?_
 ·refine StepsE_cons rfl ?_ ?_
  ·intro w11 hB10
   refine DepsE_nil ?_
   refine ⟨_, rfl, ?_⟩
   refine WL_load_box (hC7.grow hB10) 0 rfl rfl Try.isAgg3 rfl rfl ?_
   refine WL_nil ?_
   exact FinE_val (Below.refl _ _) rfl rfl ⟨rfl, rfl⟩
  refine StepsE_cons rfl ?_ ?_
  ·intro w11 hB10
   refine DepsE_cons rfl rfl rfl ?_
   rintro _ _ ⟨rfl, rfl⟩ _
   refine DepsE_nil ?_
   refine ⟨_, rfl, ?_⟩
   refine WL_call Try.call38 rfl rfl (c_S_FormatInt a1.1 x6 hr5) ?_
   intro _ w9 hv3
   obtain ⟨rfl, hB8⟩ := res_str hv3
   refine WL_nil ?_
   exact FinE_val hB8 rfl rfl ⟨rfl, rfl⟩
  refine StepsE_cons rfl ?_ ?_
  ·intro w11 hB10
   refine DepsE_cons rfl rfl rfl ?_
   rintro _ _ ⟨rfl, rfl⟩ _
   refine DepsE_nil ?_
   refine ⟨_, rfl, ?_⟩
   refine WL_str_add hx2 rfl rfl rfl ?_
   refine WL_nil ?_
   exact FinE_val (Below.refl _ _) rfl rfl ⟨rfl, rfl⟩
  refine StepsE_cons rfl ?_ ?_
  ·intro w11 hB10
   refine DepsE_cons rfl rfl rfl ?_
   rintro _ _ ⟨rfl, rfl⟩ _
   refine DepsE_nil ?_
   refine ⟨_, rfl, ?_⟩
   refine WL_str_add hx3 rfl rfl rfl ?_
   refine WL_nil ?_
   exact FinE_val (Below.refl _ _) rfl rfl ⟨rfl, rfl⟩
  refine StepsE_cons rfl ?_ ?_
  ·intro w11 hB10
   refine DepsE_nil ?_
   refine ⟨_, rfl, ?_⟩
   refine WL_load_box (hC7.grow hB10) 0 rfl rfl Try.isAgg35 rfl rfl ?_
   refine WL_nil ?_
   exact FinE_val (Below.refl _ _) rfl rfl ⟨rfl, rfl⟩
  refine StepsE_cons rfl ?_ ?_
  ·intro w11 hB10
   refine DepsE_cons rfl rfl rfl ?_
   rintro _ _ ⟨rfl, rfl⟩ _
   refine DepsE_nil ?_
   refine ⟨_, rfl, ?_⟩
   refine WL_call Try.call39 rfl rfl (c_S_l2List a1.2 u1 (g1.now (hC7.keep.then hB10)) x9 hr6) ?_
   intro _ w10 hv4
   obtain ⟨rfl, hB9⟩ := res_str hv4
   refine WL_nil ?_
   exact FinE_val hB9 rfl rfl ⟨rfl, rfl⟩
  exact StepsE_nil
 intro w12 hB11
 refine AllE_cons rfl rfl rfl ?_
 rintro _ _ ⟨rfl, rfl⟩
 refine AllE_cons rfl rfl rfl ?_
 rintro _ _ ⟨rfl, rfl⟩
 refine AllE_cons rfl rfl rfl ?_
 rintro _ _ ⟨rfl, rfl⟩
 refine AllE_cons rfl rfl rfl ?_
 rintro _ _ ⟨rfl, rfl⟩
 refine AllE_cons rfl rfl rfl ?_
 rintro _ _ ⟨rfl, rfl⟩
 refine AllE_cons rfl rfl rfl ?_
 rintro _ _ ⟨rfl, rfl⟩
 refine AllE_nil ?_
 intro hn1 hb1
 have hC8 := hC7.grow hB11
 obtain ⟨x10, hx4, hF⟩ := bind_some hF
 refine WA_tk 8 (by kernel_rfl) rfl rfl (fl_str_add hx4 rfl rfl) ?_
 refine WL_str_add hx4 rfl rfl rfl ?_
 refine WL_nil ?_
 obtain ⟨x11, hx5, hF⟩ := bind_some hF
 refine WA_tk 9 (by kernel_rfl) rfl rfl (fl_str_add hx5 rfl rfl) ?_
 refine WL_str_add hx5 rfl rfl rfl ?_
 refine WL_nil ?_
 refine WA_tk 10 (by kernel_rfl) rfl rfl (fl_assign rfl) ?_
 refine WL_assign rfl rfl ?_
 refine WL_nil ?_
 refine WA_done (by kernel_rfl) ?_
 refine nrm_normal ?_
 refine W_ret ?_
 have hq7 := Option.some.inj hF
 subst hq7
 refine fn_ret1 rfl rfl ?_
 exact ⟨_, rfl, str_res hC8 _⟩

theorem c_S_EncodeRequest {w0 : World} (a1 : (Int × (List Int))) (u1 : Value) (g1 : RO [] w0 u1 a1.2) (a2 : Int) (rr : Str) (hF : S.EncodeRequest a1 a2 = some rr) :
 Calls Try.prog 16 [(.agg #[(.int .i64 a1.1), u1]), (.int .i64 a2)].toArray w0 fun e w' => ∃ v, e = .returned v ∧ Res w0 rr v w' := by
 refine calls_of_W Try.func16 rfl rfl ?_
 have hC0 := Ctx.start w0
 unfold S.EncodeRequest at hF
 refine W_seq_reg ?_
 refine WL_box (cs := [(.int .i64 a1.1), u1]) hC0 rfl rfl rfl (fun b1 w1 hC1 hB1 => ?_)
 refine WL_assign rfl rfl ?_
 refine WL_nil ?_
 refine W_seq ?_
 obtain ⟨r1, hr1, hF⟩ := bind_some hF
 refine W_cut (fun l w => ∃ x1 : Bool, x1 = r1 ∧ l = [(1, (.int .i64 a2)), (2, (ptr b1 0)), (14, (.bool x1))] ∧ Below w1.heap.size w1 w ∧ Ctx [] w0 w [Item.box b1 [(.int .i64 a1.1), u1]]) ?_ ?_
 ·refine W_reg ?_
  refine WL_load_box_agg [(.int .i64 a1.1), u1] hC1 0 rfl rfl rfl Try.isAgg37 Try.sizeOf37 rfl rfl ?_
  obtain ⟨x2, hr2, hr1⟩ := bind_some hr1
  refine WL_call Try.call28 rfl rfl (c_S_FormatAccess (a1.1, a1.2) u1 (g1.now hC1.keep) x2 hr2) ?_
  intro _ w3 hv1
  obtain ⟨rfl, hB3⟩ := res_str hv1
  have hC3 := hC1.grow hB3
  refine WL_str_eql rfl rfl rfl ?_
  refine WL_move rfl rfl ?_
  refine WL_fork (fun hc1 => ?_) (fun hc1 => ?_)
  ·replace hr1 := ite_t hr1 hc1
   refine WL_guard_skip rfl rfl (by simp) rfl ?_
   refine WL_guard_skip rfl rfl (by simp) rfl ?_
   refine WL_guard_skip rfl rfl (by simp) rfl ?_
   refine WL_pick_t rfl rfl rfl ?_
   refine WL_nil ?_
   have hq1 := Option.some.inj hr1
   subst hq1
   refine nrm_sub (l' := [(1, (.int .i64 a2)), (2, (ptr b1 0)), (14, (.bool true))]) ⟨rfl, rfl, rfl, trivial⟩ ?_
   exact ⟨true, rfl, rfl, (Keep.of hB3).below, hC3⟩
  replace hr1 := ite_f hr1 hc1
  refine WL_guard rfl rfl ?_
  refine WL_move rfl rfl ?_
  obtain ⟨x3, hr3, hr1⟩ := bind_some hr1
  refine WL_guard rfl rfl ?_
  refine WL_call Try.call29 rfl rfl (c_S_l1In a2 1 9 x3 hr3) ?_
  intro _ w4 hv2
  obtain ⟨rfl, hB4⟩ := res_bool hv2
  have hC4 := hC3.grow hB4
  refine WL_guard rfl rfl ?_
  refine WL_not rfl rfl ?_
  refine WL_pick_f rfl rfl rfl ?_
  refine WL_nil ?_
  have hq2 := Option.some.inj hr1
  subst hq2
  refine nrm_sub (l' := [(1, (.int .i64 a2)), (2, (ptr b1 0)), (14, (.bool (!x3)))]) ⟨rfl, rfl, rfl, trivial⟩ ?_
  exact ⟨(!x3), rfl, rfl, ((Keep.of hB3).then hB4).below, hC4⟩
 rintro _ w2 ⟨x1, rfl, rfl, hB2, hC2⟩
 try dsimp only at hF
 refine W_cond rfl (fun hc2 => ?_) (fun hc2 => ?_)
 ·replace hF := ite_t hF hc2
  refine W_seq_reg ?_
  refine WL_assign rfl rfl ?_
  refine WL_nil ?_
  refine W_ret ?_
  refine nrm_ret ?_
  have hq3 := Option.some.inj hF
  subst hq3
  refine fn_ret1 rfl rfl ?_
  exact ⟨_, rfl, str_res hC2 _⟩
 replace hF := ite_f hF hc2
 refine W_skip ?_
 refine nrm_normal ?_
 refine W_seq ?_
 refine W_drawn 12 rfl hmix (fun w5 hB5 => ?_)
 have hC5 := hC2.grow hB5
 refine WA_tk 0 (by kernel_rfl) rfl rfl (fl_field Try.underlying37 rfl rfl (fun w => ⟨_, Try.sizeOf3 w⟩) rfl) ?_
 refine WL_field Try.underlying37 rfl rfl (fun w => ⟨_, Try.sizeOf3 w⟩) rfl rfl ?_
 refine WL_nil ?_
 refine WA_tk 3 (by kernel_rfl) rfl rfl (fl_move rfl) ?_
 refine WL_move rfl rfl ?_
 refine WL_nil ?_
 refine WA_tk 6 (by kernel_rfl) rfl rfl (fl_field Try.underlying37 rfl rfl (fun w => ⟨_, Try.sizeOf35 w⟩) rfl) ?_
 refine WL_field Try.underlying37 rfl rfl (fun w => ⟨_, Try.sizeOf35 w⟩) rfl rfl ?_
 refine WL_nil ?_
 obtain ⟨x4, hr4, hF⟩ := bind_some hF
 obtain ⟨x5, hr5, hF⟩ := bind_some hF
 obtain ⟨x6, hx1, hF⟩ := bind_some hF
 obtain ⟨x7, hr6, hF⟩ := bind_some hF
 refine WA.sub (l' := [(1, (.int .i64 a2)), (2, (ptr b1 0)), (14, (.bool x1)), (15, (ptr b1 0)), (18, (.int .i64 a2)), (21, (ptr b1 1))]) ?_ ⟨rfl, rfl, rfl, rfl, rfl, rfl, trivial⟩
 refine WA_postsE [⟨1, [], fun vs => PW.val (.int .i64 a1.1), []⟩, ⟨2, [], fun vs => PW.val (sv x4), []⟩, ⟨4, [], fun vs => PW.val (sv x5), []⟩, ⟨5, [], fun vs => PW.val (sv x6), []⟩, ⟨7, [], fun vs => PW.val u1, []⟩, ⟨8, [], fun vs => PW.val (.int .i64 (List.length a1.2 : Int)), []⟩, ⟨9, [], fun vs => PW.val (sv x7), []⟩] [[], [1], [], [2, 4], [], [7], [8]] 2 rfl (by kernel_rfl) (by kernel_rfl) rfl ?_ ?_
 ·refine StepsE_cons rfl ?_ ?_
  ·intro w10 hB9
   refine DepsE_nil ?_
   refine ⟨_, rfl, ?_⟩
   refine WL_load_box (hC5.grow hB9) 0 rfl rfl Try.isAgg3 rfl rfl ?_
   refine WL_nil ?_
   exact FinE_val (Below.refl _ _) rfl rfl ⟨rfl, rfl⟩
  refine StepsE_cons rfl ?_ ?_
  ·intro w10 hB9
   refine DepsE_cons rfl rfl rfl ?_
   rintro _ _ ⟨rfl, rfl⟩ _
   refine DepsE_nil ?_
   refine ⟨_, rfl, ?_⟩
   refine WL_call Try.call26 rfl rfl (c_S_EncodeVarint a1.1 x4 hr4) ?_
   intro _ w6 hv3
   obtain ⟨rfl, hB6⟩ := res_str hv3
   refine WL_nil ?_
   exact FinE_val hB6 rfl rfl ⟨rfl, rfl⟩
  refine StepsE_cons rfl ?_ ?_
  ·intro w10 hB9
   refine DepsE_nil ?_
   refine ⟨_, rfl, ?_⟩
   refine WL_call Try.call26 rfl rfl (c_S_EncodeVarint a2 x5 hr5) ?_
   intro _ w7 hv4
   obtain ⟨rfl, hB7⟩ := res_str hv4
   refine WL_nil ?_
   exact FinE_val hB7 rfl rfl ⟨rfl, rfl⟩
  refine StepsE_cons rfl ?_ ?_
  ·intro w10 hB9
   refine DepsE_cons rfl rfl rfl ?_
   rintro _ _ ⟨rfl, rfl⟩ _
   refine DepsE_cons rfl rfl rfl ?_
   rintro _ _ ⟨rfl, rfl⟩ _
   refine DepsE_nil ?_
   refine ⟨_, rfl, ?_⟩
   refine WL_str_add hx1 rfl rfl rfl ?_
   refine WL_nil ?_
   exact FinE_val (Below.refl _ _) rfl rfl ⟨rfl, rfl⟩
  refine StepsE_cons rfl ?_ ?_
  ·intro w10 hB9
   refine DepsE_nil ?_
   refine ⟨_, rfl, ?_⟩
   refine WL_load_box (hC5.grow hB9) 0 rfl rfl Try.isAgg35 rfl rfl ?_
   refine WL_nil ?_
   exact FinE_val (Below.refl _ _) rfl rfl ⟨rfl, rfl⟩
  refine StepsE_cons rfl ?_ ?_
  ·intro w10 hB9
   refine DepsE_cons rfl rfl rfl ?_
   rintro _ _ ⟨rfl, rfl⟩ _
   refine DepsE_nil ?_
   refine ⟨_, rfl, ?_⟩
   refine WL_len Try.underlying35 g1 rfl rfl ?_
   refine WL_nil ?_
   exact FinE_val (Below.refl _ _) rfl rfl ⟨rfl, rfl⟩
  refine StepsE_cons rfl ?_ ?_
  ·intro w10 hB9
   refine DepsE_cons rfl rfl rfl ?_
   rintro _ _ ⟨rfl, rfl⟩ _
   refine DepsE_nil ?_
   refine ⟨_, rfl, ?_⟩
   refine WL_call Try.call26 rfl rfl (c_S_EncodeVarint (List.length a1.2 : Int) x7 hr6) ?_
   intro _ w9 hv5
   obtain ⟨rfl, hB8⟩ := res_str hv5
   refine WL_nil ?_
   exact FinE_val hB8 rfl rfl ⟨rfl, rfl⟩
  exact StepsE_nil
 intro w11 hB10
 refine AllE_cons rfl rfl rfl ?_
 rintro _ _ ⟨rfl, rfl⟩
 refine AllE_cons rfl rfl rfl ?_
 rintro _ _ ⟨rfl, rfl⟩
 refine AllE_cons rfl rfl rfl ?_
 rintro _ _ ⟨rfl, rfl⟩
 refine AllE_cons rfl rfl rfl ?_
 rintro _ _ ⟨rfl, rfl⟩
 refine AllE_cons rfl rfl rfl ?_
 rintro _ _ ⟨rfl, rfl⟩
 refine AllE_cons rfl rfl rfl ?_
 rintro _ _ ⟨rfl, rfl⟩
 refine AllE_cons rfl rfl rfl ?_
 rintro _ _ ⟨rfl, rfl⟩
 refine AllE_nil ?_
 intro hn1 hb1
 have hC6 := hC5.grow hB10
 obtain ⟨x8, hx2, hF⟩ := bind_some hF
 refine WA_tk 10 (by kernel_rfl) rfl rfl (fl_str_add hx2 rfl rfl) ?_
 refine WL_str_add hx2 rfl rfl rfl ?_
 refine WL_nil ?_
 refine WA_tk 11 (by kernel_rfl) rfl rfl (fl_assign rfl) ?_
 refine WL_assign rfl rfl ?_
 refine WL_nil ?_
 refine WA_done (by kernel_rfl) ?_
 refine nrm_normal ?_
 refine W_seq ?_
 refine W_seq_reg ?_
 refine WL_assign rfl rfl ?_
 refine WL_nil ?_
 obtain ⟨r2, hr7, hF⟩ := bind_some hF
 refine W_norm (fun l w => ∃ x11 : Str, x11 = r2 ∧ l = [(5, (sv x11))] ∧ Below w11.heap.size w11 w ∧ Ctx [] w0 w []) ?_ ?_
 ·refine W_block ?_
  refine W.sub (l' := [(2, (ptr b1 0)), (5, (sv x8)), (6, (.int .i64 0))]) ?_ ⟨rfl, rfl, rfl, trivial⟩
  refine W_loop (fun k l w => ∃ x9 : Str, ∃ x10 : Int, l = [(2, (ptr b1 0)), (5, (sv x9)), (6, (.int .i64 x10))] ∧ Below w11.heap.size w11 w ∧ Ctx [] w0 w [Item.box b1 [(.int .i64 a1.1), u1]] ∧ S.EncodeRequest_l1 a1 k x9 x10 = some r2) FUEL ⟨x8, 0, rfl, (Below.refl _ _), hC6, hr7⟩ ?_
  clear hr7
  rintro k1 _ w12 ⟨x9, x10, rfl, hB11, hC7, hL1⟩
  cases k1 with
  | zero => rw [S.EncodeRequest_l1] at hL1; cases hL1
  | succ k1 =>
   rw [S.EncodeRequest_l1] at hL1
   refine W_seq ?_
   refine W_seq_reg ?_
   refine WL_move rfl rfl ?_
   refine WL_field Try.underlying37 rfl rfl (fun w => ⟨_, Try.sizeOf35 w⟩) rfl rfl ?_
   refine WL_load_box hC7 0 rfl rfl Try.isAgg35 rfl rfl ?_
   refine WL_len Try.underlying35 g1 rfl rfl ?_
   refine WL_lss rfl rfl rfl ?_
   refine WL_nil ?_
   refine W_cond rfl (fun hc3 => ?_) (fun hc3 => ?_)
   ·replace hL1 := ite_t hL1 hc3
    refine W_skip ?_
    refine nrm_normal ?_
    refine W_seq ?_
    refine W_block ?_
    refine W_reg ?_
    refine WL_move rfl rfl ?_
    refine WL_field Try.underlying37 rfl rfl (fun w => ⟨_, Try.sizeOf35 w⟩) rfl rfl ?_
    refine WL_load_box hC7 0 rfl rfl Try.isAgg35 rfl rfl ?_
    refine WL_move rfl rfl ?_
    obtain ⟨x12, hx3, hL1⟩ := bind_some hL1
    refine WL_index Try.underlying35 ty3 g1 hx3 rfl rfl rfl (fun b2 o1 h1 => ?_)
    refine WL_load ty3 h1 hC7.keep rfl rfl (fun v1 h2 => ?_)
    obtain rfl := ro_int h2
    obtain ⟨x13, hr8, hL1⟩ := bind_some hL1
    refine WL_call Try.call26 rfl rfl (c_S_EncodeVarint x12 x13 hr8) ?_
    intro _ w13 hv6
    obtain ⟨rfl, hB12⟩ := res_str hv6
    have hC8 := hC7.grow hB12
    obtain ⟨x14, hx4, hL1⟩ := bind_some hL1
    refine WL_str_add hx4 rfl rfl rfl ?_
    refine WL_assign rfl rfl ?_
    refine WL_nil ?_
    refine blk_normal ?_
    refine nrm_normal ?_
    refine W_reg ?_
    refine WL_move rfl rfl ?_
    refine WL_add rfl rfl rfl ?_
    refine WL_assign rfl rfl ?_
    refine WL_nil ?_
    refine nrm_sub (l' := [(2, (ptr b1 0)), (5, (sv x14)), (6, (.int .i64 (w64 (x10 + 1))))]) ⟨rfl, rfl, rfl, trivial⟩ ?_
    exact ⟨k1, Nat.lt_succ_self _, x14, w64 (x10 + 1), rfl, ((Keep.of hB11).then hB12).below, hC8, hL1⟩
   replace hL1 := ite_f hL1 hc3
   refine W_exit ?_
   refine nrm_exit ?_
   refine nrm_exit ?_
   refine blk_exit ?_
   have hq4 := Option.some.inj hL1
   subst hq4
   have hC9 := hC7.h0
   refine nrm_sub (l' := [(5, (sv x9))]) ⟨rfl, trivial⟩ ?_
   exact ⟨x9, rfl, rfl, (Keep.of hB11).below, hC9⟩
 rintro l3 _ w14 hs3 ⟨x11, rfl, rfl, hB13, hC10⟩
 try dsimp only at hF
 refine nrm_sub' hs3 ?_
 clear hs3
 refine W_seq_reg ?_
 refine WL_move rfl rfl ?_
 refine WL_assign rfl rfl ?_
 refine WL_nil ?_
 refine W_ret ?_
 have hq5 := Option.some.inj hF
 subst hq5
 refine fn_ret1 rfl rfl ?_
 exact ⟨_, rfl, str_res hC10 _⟩

theorem c_S_l1Once {w0 : World} {Fs : List (List Nat)} (pb1 : Nat) (a1 : ((List UInt8) × Int × Int)) (u1 : Value) (g1 : RO Fs.flatten w0 u1 a1.1) (a2 : Int) (hH : Hold [Item.box pb1 [u1, (.int .i64 a1.2.1), (.int .i64 a1.2.2)]] w0 Fs) (hn : Fs.flatten.Nodup) (rr : (Bool × ((List UInt8) × Int × Int))) (hF : S.l1Once a1 a2 = some rr) :
 Calls Try.prog 36 [(ptr pb1 0), (.int .i64 a2)].toArray w0 fun e w' => ∃ v, e = .returned v ∧ v = (.bool rr.1) ∧ Ctx Fs.flatten w0 w' [Item.box pb1 [u1, (.int .i64 rr.2.2.1), (.int .i64 rr.2.2.2)]] := by
 refine calls_of_W Try.func36 rfl rfl ?_
 have hC0 := Ctx.startIn hH hn
 unfold S.l1Once at hF
 refine W_seq_reg ?_
 refine WL_assign rfl rfl ?_
 refine WL_nil ?_
 refine W_seq_reg ?_
 refine WL_move rfl rfl ?_
 refine WL_move rfl rfl ?_
 obtain ⟨x1, hr1, hF⟩ := bind_some hF
 obtain ⟨Fs1, hH1, hn1, hF1, hO1, hb1⟩ := Ctx.lend2 (As := []) [Item.box pb1 [u1, (.int .i64 a1.2.1), (.int .i64 a1.2.2)]] hC0
 refine WL_call Try.call15 rfl rfl (c_S_l1Below pb1 (a1.1, a1.2.1, a1.2.2) u1 (RO.lent g1 hC0.keep hF1) a2 hH1 hn1 x1 hr1) ?_
 rintro _ w1 ⟨rfl, hq1⟩
 have hC1 : Ctx Fs.flatten w0 w1 [Item.box pb1 [u1, (.int .i64 x1.2.2.1), (.int .i64 x1.2.2.2)]] := hb1 _ _ hq1
 refine WL_eql rfl rfl rfl ?_
 refine WL_assign rfl rfl ?_
 refine WL_nil ?_
 refine W_ret ?_
 have hq2 := Option.some.inj hF
 subst hq2
 refine fn_ret1 rfl rfl ?_
 exact ⟨_, rfl, rfl, hC1⟩

theorem c_S_l2Schema {w0 : World} {Fs : List (List Nat)} (pb1 : Nat) (a1 : ((List UInt8) × Int × Int)) (u1 : Value) (g1 : RO Fs.flatten w0 u1 a1.1) (hH : Hold [Item.box pb1 [u1, (.int .i64 a1.2.1), (.int .i64 a1.2.2)]] w0 Fs) (hn : Fs.flatten.Nodup) (rr : ((List Int) × ((List UInt8) × Int × Int))) (hF : S.l2Schema a1 = some rr) :
 Calls Try.prog 33 [(ptr pb1 0)].toArray w0 fun e w' => ∃ v, e = .returned v ∧ ∃ q0 : Value, v = q0 ∧ Ctx Fs.flatten w0 w' [Item.own q0 (rr.1 : (List Int)), Item.box pb1 [u1, (.int .i64 rr.2.2.1), (.int .i64 rr.2.2.2)]] := by
 refine calls_of_W Try.func33 rfl rfl ?_
 have hC0 := Ctx.startIn hH hn
 unfold S.l2Schema at hF
 refine W_seq_reg ?_
 refine WL_assign rfl rfl ?_
 refine WL_nil ?_
 refine W_seq_reg ?_
 refine WL_buildSlice (vs := []) hC0 Try.underlying35 ty3 rfl rfl rfl rfl (by simp) rfl rfl (fun b1 w1 hC1 hB1 => ?_)
 have hC2 := hC1.row0 (α := Int)
 have hC3 := hC2.front 1 rfl
 dsimp only [List.eraseIdx, List.cons_append, List.nil_append, List.append_nil] at hC3
 have hC4 : Ctx Fs.flatten w0 w1 (Item.own (.slice (some ⟨b1, 0, none⟩) 0 0) (([] : List Int) : List Int) :: [Item.box pb1 [u1, (.int .i64 a1.2.1), (.int .i64 a1.2.2)]]) := hC3.rowOwn (by simp [maxLen])
 refine WL_assign rfl rfl ?_
 refine WL_nil ?_
 refine W_seq ?_
 refine W_seq_reg ?_
 refine WL_move rfl rfl ?_
 obtain ⟨x1, hr1, hF⟩ := bind_some hF
 have hC5 := hC4.f1
 obtain ⟨Fs1, hH1, hn1, hF1, hO1, hb1⟩ := Ctx.lend2 (As := [Item.own (.slice (some ⟨b1, 0, none⟩) 0 0) (([] : List Int) : (List Int))]) [Item.box pb1 [u1, (.int .i64 a1.2.1), (.int .i64 a1.2.2)]] hC5
 refine WL_call Try.call15 rfl rfl (c_S_l1Below pb1 (a1.1, a1.2.1, a1.2.2) u1 (RO.lent g1 hC5.keep hF1) 3 hH1 hn1 x1 hr1) ?_
 rintro _ w2 ⟨rfl, hq1⟩
 have hC6 : Ctx Fs.flatten w0 w2 [Item.box pb1 [u1, (.int .i64 x1.2.2.1), (.int .i64 x1.2.2.2)], Item.own (.slice (some ⟨b1, 0, none⟩) 0 0) (([] : List Int) : (List Int))] := hb1 _ _ hq1
 refine WL_add rfl rfl rfl ?_
 refine WL_assign rfl rfl ?_
 refine WL_nil ?_
 obtain ⟨r1, hr2, hF⟩ := bind_some hF
 refine W_norm (fun l w => ∃ x6 : Int, ∃ x7 : Int, ∃ v2 : Value, ∃ x8 : (List Int), (x6, x7, x8) = r1 ∧ l = [(3, v2)] ∧ Ctx Fs.flatten w0 w [Item.box pb1 [u1, (.int .i64 x6), (.int .i64 x7)], Item.own v2 (x8 : (List Int))]) ?_ ?_
 ·refine W_block ?_
  refine W.sub (l' := [(0, (ptr pb1 0)), (3, (.slice (some ⟨b1, 0, none⟩) 0 0)), (4, (.int .i64 (w64 (1 + x1.1))))]) ?_ ⟨rfl, rfl, rfl, trivial⟩
  refine W_loop (fun k l w => ∃ x2 : Int, ∃ x3 : Int, ∃ v1 : Value, ∃ x4 : (List Int), ∃ x5 : Int, l = [(0, (ptr pb1 0)), (3, v1), (4, (.int .i64 x5))] ∧ Ctx Fs.flatten w0 w [Item.box pb1 [u1, (.int .i64 x2), (.int .i64 x3)], Item.own v1 (x4 : (List Int))] ∧ S.l2Schema_l1 a1 k x2 x3 x4 x5 = some r1) FUEL ⟨x1.2.2.1, x1.2.2.2, (.slice (some ⟨b1, 0, none⟩) 0 0), ([] : List Int), w64 (1 + x1.1), rfl, hC6, hr2⟩ ?_
  clear hr2
  rintro k1 _ w3 ⟨x2, x3, v1, x4, x5, rfl, hC7, hL1⟩
  cases k1 with
  | zero => rw [S.l2Schema_l1] at hL1; cases hL1
  | succ k1 =>
   rw [S.l2Schema_l1] at hL1
   refine W_seq ?_
   refine W_seq_reg ?_
   refine WL_move rfl rfl ?_
   refine WL_gtr rfl rfl rfl ?_
   refine WL_nil ?_
   refine W_cond rfl (fun hc1 => ?_) (fun hc1 => ?_)
   ·replace hL1 := ite_t hL1 hc1
    refine W_skip ?_
    refine nrm_normal ?_
    refine W_seq ?_
    refine W_block ?_
    refine W_seq_reg ?_
    refine WL_move rfl rfl ?_
    obtain ⟨x9, hr3, hL1⟩ := bind_some hL1
    obtain ⟨Fs2, hH2, hn2, hF2, hO2, hb2⟩ := Ctx.lend2 (As := [Item.own v1 (x4 : (List Int))]) [Item.box pb1 [u1, (.int .i64 x2), (.int .i64 x3)]] hC7
    refine WL_call Try.call15 rfl rfl (c_S_l1Below pb1 (a1.1, x2, x3) u1 (RO.lent g1 hC7.keep hF2) 2 hH2 hn2 x9 hr3) ?_
    rintro _ w4 ⟨rfl, hq2⟩
    have hC8 : Ctx Fs.flatten w0 w4 [Item.box pb1 [u1, (.int .i64 x9.2.2.1), (.int .i64 x9.2.2.2)], Item.own v1 (x4 : (List Int))] := hb2 _ _ hq2
    refine WL_add rfl rfl rfl ?_
    refine WL_assign rfl rfl ?_
    refine WL_nil ?_
    refine W_seq ?_
    refine W_seq_reg ?_
    refine WL_move rfl rfl ?_
    obtain ⟨x10, hr4, hL1⟩ := bind_some hL1
    obtain ⟨Fs3, hH3, hn3, hF3, hO3, hb3⟩ := Ctx.lend2 (As := [Item.own v1 (x4 : (List Int))]) [Item.box pb1 [u1, (.int .i64 x9.2.2.1), (.int .i64 x9.2.2.2)]] hC8
    refine WL_call Try.call36 rfl rfl (c_S_l1Once pb1 (a1.1, x9.2.2.1, x9.2.2.2) u1 (RO.lent g1 hC8.keep hF3) 4 hH3 hn3 x10 hr4) ?_
    rintro _ w5 ⟨rfl, hq3⟩
    have hC9 : Ctx Fs.flatten w0 w5 [Item.box pb1 [u1, (.int .i64 x10.2.2.1), (.int .i64 x10.2.2.2)], Item.own v1 (x4 : (List Int))] := hb3 _ _ hq3
    refine WL_nil ?_
    obtain ⟨r2, hr5, hL1⟩ := bind_some hL1
    refine W_norm (fun l w => ∃ x11 : Int, x11 = r2 ∧ l = [(0, (ptr pb1 0)), (3, v1), (4, (.int .i64 x5)), (5, (.int .i64 x11))] ∧ Below w5.heap.size w5 w ∧ Ctx Fs.flatten w0 w [Item.box pb1 [u1, (.int .i64 x10.2.2.1), (.int .i64 x10.2.2.2)], Item.own v1 (x4 : (List Int))]) ?_ ?_
    ·refine W_cond rfl (fun hc2 => ?_) (fun hc2 => ?_)
     ·replace hr5 := ite_t hr5 hc2
      refine W_reg ?_
      refine WL_assign rfl rfl ?_
      refine WL_nil ?_
      have hq4 := Option.some.inj hr5
      subst hq4
      refine nrm_sub (l' := [(0, (ptr pb1 0)), (3, v1), (4, (.int .i64 x5)), (5, (.int .i64 3))]) ⟨rfl, rfl, rfl, rfl, trivial⟩ ?_
      exact ⟨3, rfl, rfl, (Below.refl _ _), hC9⟩
     replace hr5 := ite_f hr5 hc2
     refine W_skip ?_
     have hq5 := Option.some.inj hr5
     subst hq5
     refine nrm_sub (l' := [(0, (ptr pb1 0)), (3, v1), (4, (.int .i64 x5)), (5, (.int .i64 (w64 (1 + x9.1))))]) ⟨rfl, rfl, rfl, rfl, trivial⟩ ?_
     exact ⟨w64 (1 + x9.1), rfl, rfl, (Below.refl _ _), hC9⟩
    rintro l2 _ w6 hs2 ⟨x11, rfl, rfl, hB3, hC10⟩
    try dsimp only at hL1
    refine nrm_sub' hs2 ?_
    clear hs2
    refine W_reg ?_
    refine WL_move rfl rfl ?_
    refine WL_move rfl rfl ?_
    refine WL_buildSlice (vs := [(.int .i64 x11)]) hC10 Try.underlying35 ty3 rfl rfl rfl rfl (by intro v hv; simp only [List.mem_cons, List.not_mem_nil, or_false] at hv; rcases hv with rfl <;> rfl) rfl rfl (fun b2 w7 hC11 hB4 => ?_)
    have hC12 := hC11.row0 (α := Int)
    have hC13 := hC12.triv (int_val (x11))
    have hC14 := hC13.row1
    have hC15 := hC14.front 1 rfl
    dsimp only [List.eraseIdx, List.cons_append, List.nil_append, List.append_nil] at hC15
    have hC16 : Ctx Fs.flatten w0 w7 (Item.own (.slice (some ⟨b2, 0, none⟩) 1 1) ([x11] : List Int) :: [Item.box pb1 [u1, (.int .i64 x10.2.2.1), (.int .i64 x10.2.2.2)], Item.own v1 (x4 : (List Int))]) := hC15.rowOwn (by simp [maxLen])
    obtain ⟨x12, hx1, hL1⟩ := bind_some hL1
    refine WL_append_flat (α := Int) hC16 2 rfl (hC16.ro 0 rfl) (Keep.refl _ _) Try.underlying35 ty3 rfl hx1 rfl rfl rfl (fun v3 w9 hC17 => ?_)
    try dsimp only [List.set] at hC17
    refine WL_assign rfl rfl ?_
    refine WL_nil ?_
    refine blk_normal ?_
    refine nrm_normal ?_
    refine W_reg ?_
    refine WL_move rfl rfl ?_
    refine WL_sub rfl rfl rfl ?_
    refine WL_assign rfl rfl ?_
    refine WL_nil ?_
    have hC18 := hC17.f2
    have hC19 := hC18.f2
    have hC20 := hC19.h2
    refine nrm_sub (l' := [(0, (ptr pb1 0)), (3, v3), (4, (.int .i64 (w64 (x5 - 1))))]) ⟨rfl, rfl, rfl, trivial⟩ ?_
    exact ⟨k1, Nat.lt_succ_self _, x10.2.2.1, x10.2.2.2, v3, x12, w64 (x5 - 1), rfl, hC20, hL1⟩
   replace hL1 := ite_f hL1 hc1
   refine W_exit ?_
   refine nrm_exit ?_
   refine nrm_exit ?_
   refine blk_exit ?_
   have hq6 := Option.some.inj hL1
   subst hq6
   refine nrm_sub (l' := [(3, v1)]) ⟨rfl, trivial⟩ ?_
   exact ⟨x2, x3, v1, x4, rfl, rfl, hC7⟩
 rintro l3 _ w10 hs3 ⟨x6, x7, v2, x8, rfl, rfl, hC21⟩
 try dsimp only at hF
 refine nrm_sub' hs3 ?_
 clear hs3
 refine W_seq_reg ?_
 refine WL_move rfl rfl ?_
 refine WL_assign rfl rfl ?_
 refine WL_nil ?_
 refine W_ret ?_
 have hq7 := Option.some.inj hF
 subst hq7
 refine fn_ret1 rfl rfl ?_
 have hC22 := hC21.f1
 exact ⟨_, rfl, _, rfl, hC22⟩

theorem c_S_CompareFacts {w0 : World} (a1 : (Int × (List Int))) (u1 : Value) (g1 : RO [] w0 u1 a1.2) (a2 : (Int × (List Int))) (u2 : Value) (g2 : RO [] w0 u2 a2.2) (rr : Int) (hF : S.CompareFacts a1 a2 = some rr) :
 Calls Try.prog 53 [(.agg #[(.int .i64 a1.1), u1]), (.agg #[(.int .i64 a2.1), u2])].toArray w0 fun e w' => ∃ v, e = .returned v ∧ Res w0 rr v w' := by
 refine calls_of_W Try.func53 rfl rfl ?_
 have hC0 := Ctx.start w0
 unfold S.CompareFacts at hF
 refine W_seq_reg ?_
 refine WL_box (cs := [(.int .i64 a1.1), u1]) hC0 rfl rfl rfl (fun b1 w1 hC1 hB1 => ?_)
 refine WL_box (cs := [(.int .i64 a2.1), u2]) hC1 rfl rfl rfl (fun b2 w2 hC2 hB2 => ?_)
 refine WL_assign rfl rfl ?_
 refine WL_nil ?_
 refine W_seq ?_
 refine W_seq_reg ?_
 refine WL_field Try.underlying70 rfl rfl (fun w => ⟨_, Try.sizeOf3 w⟩) rfl rfl ?_
 refine WL_load_box hC2 1 rfl rfl Try.isAgg3 rfl rfl ?_
 refine WL_field Try.underlying70 rfl rfl (fun w => ⟨_, Try.sizeOf3 w⟩) rfl rfl ?_
 refine WL_load_box hC2 0 rfl rfl Try.isAgg3 rfl rfl ?_
 refine WL_neq rfl rfl rfl ?_
 refine WL_nil ?_
 refine W_cond rfl (fun hc1 => ?_) (fun hc1 => ?_)
 ·replace hF := ite_t hF hc1
  refine W_seq ?_
  refine W_seq_reg ?_
  refine WL_field Try.underlying70 rfl rfl (fun w => ⟨_, Try.sizeOf3 w⟩) rfl rfl ?_
  refine WL_load_box hC2 1 rfl rfl Try.isAgg3 rfl rfl ?_
  refine WL_field Try.underlying70 rfl rfl (fun w => ⟨_, Try.sizeOf3 w⟩) rfl rfl ?_
  refine WL_load_box hC2 0 rfl rfl Try.isAgg3 rfl rfl ?_
  refine WL_lss rfl rfl rfl ?_
  refine WL_nil ?_
  refine W_cond rfl (fun hc2 => ?_) (fun hc2 => ?_)
  ·replace hF := ite_t hF hc2
   refine W_seq_reg ?_
   refine WL_assign rfl rfl ?_
   refine WL_nil ?_
   refine W_ret ?_
   refine nrm_ret ?_
   refine nrm_ret ?_
   have hq1 := Option.some.inj hF
   subst hq1
   refine fn_ret1 rfl rfl ?_
   exact ⟨_, rfl, int_res hC2 _⟩
  replace hF := ite_f hF hc2
  refine W_skip ?_
  refine nrm_normal ?_
  refine W_seq_reg ?_
  refine WL_assign rfl rfl ?_
  refine WL_nil ?_
  refine W_ret ?_
  refine nrm_ret ?_
  have hq2 := Option.some.inj hF
  subst hq2
  refine fn_ret1 rfl rfl ?_
  exact ⟨_, rfl, int_res hC2 _⟩
 replace hF := ite_f hF hc1
 refine W_skip ?_
 refine nrm_normal ?_
 refine W_seq ?_
 refine W_seq_reg ?_
 refine WL_assign rfl rfl ?_
 refine WL_nil ?_
 obtain ⟨r1, hr1, hF⟩ := bind_some hF
 refine W_norm (fun l w => .inl () = r1 ∧ l = [(2, (ptr b1 0)), (3, (ptr b2 0))] ∧ Below w2.heap.size w2 w ∧ Ctx [] w0 w [Item.box b2 [(.int .i64 a2.1), u2], Item.box b1 [(.int .i64 a1.1), u1]]) ?_ ?_
 ·refine W_block ?_
  refine W.sub (l' := [(2, (ptr b1 0)), (3, (ptr b2 0)), (5, (.int .i64 0))]) ?_ ⟨rfl, rfl, rfl, trivial⟩
  refine W_loop (fun k l w => ∃ x1 : Int, l = [(2, (ptr b1 0)), (3, (ptr b2 0)), (5, (.int .i64 x1))] ∧ Below w2.heap.size w2 w ∧ Ctx [] w0 w [Item.box b2 [(.int .i64 a2.1), u2], Item.box b1 [(.int .i64 a1.1), u1]] ∧ S.CompareFacts_l1 a1 a2 k x1 = some r1) FUEL ⟨0, rfl, (Below.refl _ _), hC2, hr1⟩ ?_
  clear hr1
  rintro k1 _ w3 ⟨x1, rfl, hB3, hC3, hL1⟩
  cases k1 with
  | zero => rw [S.CompareFacts_l1] at hL1; cases hL1
  | succ k1 =>
   rw [S.CompareFacts_l1] at hL1
   refine W_seq ?_
   obtain ⟨r2, hr2, hL1⟩ := bind_some hL1
   refine W_cut (fun l w => ∃ x2 : Bool, x2 = r2 ∧ l = [(2, (ptr b1 0)), (3, (ptr b2 0)), (5, (.int .i64 x1)), (27, (.bool x2))] ∧ Below w3.heap.size w3 w ∧ Ctx [] w0 w [Item.box b2 [(.int .i64 a2.1), u2], Item.box b1 [(.int .i64 a1.1), u1]]) ?_ ?_
   ·refine W_reg ?_
    refine WL_move rfl rfl ?_
    refine WL_field Try.underlying70 rfl rfl (fun w => ⟨_, Try.sizeOf35 w⟩) rfl rfl ?_
    refine WL_load_box hC3 1 rfl rfl Try.isAgg35 rfl rfl ?_
    refine WL_len Try.underlying35 g1 rfl rfl ?_
    refine WL_lss rfl rfl rfl ?_
    refine WL_move rfl rfl ?_
    refine WL_fork (fun hc3 => ?_) (fun hc3 => ?_)
    ·replace hr2 := ite_t hr2 hc3
     refine WL_guard rfl rfl ?_
     refine WL_move rfl rfl ?_
     refine WL_guard rfl rfl ?_
     refine WL_field Try.underlying70 rfl rfl (fun w => ⟨_, Try.sizeOf35 w⟩) rfl rfl ?_
     refine WL_guard rfl rfl ?_
     refine WL_load_box hC3 0 rfl rfl Try.isAgg35 rfl rfl ?_
     refine WL_guard rfl rfl ?_
     refine WL_len Try.underlying35 g2 rfl rfl ?_
     refine WL_guard rfl rfl ?_
     refine WL_lss rfl rfl rfl ?_
     refine WL_pick_t rfl rfl rfl ?_
     refine WL_nil ?_
     have hq3 := Option.some.inj hr2
     subst hq3
     refine nrm_sub (l' := [(2, (ptr b1 0)), (3, (ptr b2 0)), (5, (.int .i64 x1)), (27, (.bool (decide (x1 < (List.length a2.2 : Int)))))]) ⟨rfl, rfl, rfl, rfl, trivial⟩ ?_
     exact ⟨(decide (x1 < (List.length a2.2 : Int))), rfl, rfl, (Below.refl _ _), hC3⟩
    replace hr2 := ite_f hr2 hc3
    refine WL_guard_skip rfl rfl (by simp) rfl ?_
    refine WL_guard_skip rfl rfl (by simp) rfl ?_
    refine WL_guard_skip rfl rfl (by simp) rfl ?_
    refine WL_guard_skip rfl rfl (by simp) rfl ?_
    refine WL_guard_skip rfl rfl (by simp) rfl ?_
    refine WL_pick_f rfl rfl rfl ?_
    refine WL_nil ?_
    have hq4 := Option.some.inj hr2
    subst hq4
    refine nrm_sub (l' := [(2, (ptr b1 0)), (3, (ptr b2 0)), (5, (.int .i64 x1)), (27, (.bool false))]) ⟨rfl, rfl, rfl, rfl, trivial⟩ ?_
    exact ⟨false, rfl, rfl, (Below.refl _ _), hC3⟩
   rintro _ w4 ⟨x2, rfl, rfl, hB4, hC4⟩
   try dsimp only at hL1
   refine W_cond rfl (fun hc4 => ?_) (fun hc4 => ?_)
   ·replace hL1 := ite_t hL1 hc4
    refine W_skip ?_
    refine nrm_normal ?_
    refine W_seq ?_
    refine W_block ?_
    refine W_seq ?_
    refine W_seq ?_
    refine W_drawn 11 rfl hmix (fun w5 hB5 => ?_)
    have hC5 := hC4.grow hB5
    refine WA_tk 0 (by kernel_rfl) rfl rfl (fl_field Try.underlying70 rfl rfl (fun w => ⟨_, Try.sizeOf35 w⟩) rfl) ?_
    refine WL_field Try.underlying70 rfl rfl (fun w => ⟨_, Try.sizeOf35 w⟩) rfl rfl ?_
    refine WL_nil ?_
    refine WA_tk 2 (by kernel_rfl) rfl rfl (fl_move rfl) ?_
    refine WL_move rfl rfl ?_
    refine WL_nil ?_
    refine WA_tk 5 (by kernel_rfl) rfl rfl (fl_field Try.underlying70 rfl rfl (fun w => ⟨_, Try.sizeOf35 w⟩) rfl) ?_
    refine WL_field Try.underlying70 rfl rfl (fun w => ⟨_, Try.sizeOf35 w⟩) rfl rfl ?_
    refine WL_nil ?_
    refine WA_tk 7 (by kernel_rfl) rfl rfl (fl_move rfl) ?_
    refine WL_move rfl rfl ?_
    refine WL_nil ?_
    obtain ⟨x3, hx1, hL1⟩ := bind_some hL1
    obtain ⟨x4, hx2, hL1⟩ := bind_some hL1
    refine WA.sub (l' := [(2, (ptr b1 0)), (3, (ptr b2 0)), (5, (.int .i64 x1)), (27, (.bool x2)), (30, (ptr b1 1)), (32, (.int .i64 x1)), (35, (ptr b2 1)), (37, (.int .i64 x1))]) ?_ ⟨rfl, rfl, rfl, rfl, rfl, rfl, rfl, rfl, trivial⟩
    refine WA_postsE [⟨1, [], fun vs => PW.val u1, []⟩, ⟨3, [], fun vs => PW.at [] w0 x3, []⟩, ⟨4, [], fun vs => PW.val (.int .i64 x3), []⟩, ⟨6, [], fun vs => PW.val u2, []⟩, ⟨8, [], fun vs => PW.at [] w0 x4, []⟩, ⟨9, [], fun vs => PW.val (.int .i64 x4), []⟩] [[], [1], [3], [], [6], [8]] 1 rfl (by kernel_rfl) (by kernel_rfl) rfl ?_ ?_
    ·refine StepsE_cons rfl ?_ ?_
     ·intro w6 hB6
      refine DepsE_nil ?_
      refine ⟨_, rfl, ?_⟩
      refine WL_load_box (hC5.grow hB6) 1 rfl rfl Try.isAgg35 rfl rfl ?_
      refine WL_nil ?_
      exact FinE_val (Below.refl _ _) rfl rfl ⟨rfl, rfl⟩
     refine StepsE_cons rfl ?_ ?_
     ·intro w6 hB6
      refine DepsE_cons rfl rfl rfl ?_
      rintro _ _ ⟨rfl, rfl⟩ _
      refine DepsE_nil ?_
      refine ⟨_, rfl, ?_⟩
      refine WL_index Try.underlying35 ty3 g1 hx1 rfl rfl rfl (fun b3 o1 h1 => ?_)
      refine WL_nil ?_
      exact FinE_val (Below.refl _ _) rfl rfl ⟨rfl, _, _, rfl, h1⟩
     refine StepsE_cons rfl ?_ ?_
     ·intro w6 hB6
      refine DepsE_cons rfl rfl rfl ?_
      rintro _ _ ⟨rfl, b3, o1, rfl, h1⟩ _
      refine DepsE_nil ?_
      refine ⟨_, rfl, ?_⟩
      refine WL_load ty3 h1 (hC5.keep.then hB6) rfl rfl (fun v1 h2 => ?_)
      obtain rfl := ro_int h2
      refine WL_nil ?_
      exact FinE_val (Below.refl _ _) rfl rfl ⟨rfl, rfl⟩
     refine StepsE_cons rfl ?_ ?_
     ·intro w6 hB6
      refine DepsE_nil ?_
      refine ⟨_, rfl, ?_⟩
      refine WL_load_box (hC5.grow hB6) 0 rfl rfl Try.isAgg35 rfl rfl ?_
      refine WL_nil ?_
      exact FinE_val (Below.refl _ _) rfl rfl ⟨rfl, rfl⟩
     refine StepsE_cons rfl ?_ ?_
     ·intro w6 hB6
      refine DepsE_cons rfl rfl rfl ?_
      rintro _ _ ⟨rfl, rfl⟩ _
      refine DepsE_nil ?_
      refine ⟨_, rfl, ?_⟩
      refine WL_index Try.underlying35 ty3 g2 hx2 rfl rfl rfl (fun b4 o2 h3 => ?_)
      refine WL_nil ?_
      exact FinE_val (Below.refl _ _) rfl rfl ⟨rfl, _, _, rfl, h3⟩
     refine StepsE_cons rfl ?_ ?_
     ·intro w6 hB6
      refine DepsE_cons rfl rfl rfl ?_
      rintro _ _ ⟨rfl, b4, o2, rfl, h3⟩ _
      refine DepsE_nil ?_
      refine ⟨_, rfl, ?_⟩
      refine WL_load ty3 h3 (hC5.keep.then hB6) rfl rfl (fun v2 h4 => ?_)
      obtain rfl := ro_int h4
      refine WL_nil ?_
      exact FinE_val (Below.refl _ _) rfl rfl ⟨rfl, rfl⟩
     exact StepsE_nil
    intro w7 hB7
    refine AllE_cons rfl rfl rfl ?_
    rintro _ _ ⟨rfl, rfl⟩
    refine AllE_cons rfl rfl rfl ?_
    rintro _ _ ⟨rfl, b3, o1, rfl, h1⟩
    refine AllE_cons rfl rfl rfl ?_
    rintro _ _ ⟨rfl, rfl⟩
    refine AllE_cons rfl rfl rfl ?_
    rintro _ _ ⟨rfl, rfl⟩
    refine AllE_cons rfl rfl rfl ?_
    rintro _ _ ⟨rfl, b4, o2, rfl, h3⟩
    refine AllE_cons rfl rfl rfl ?_
    rintro _ _ ⟨rfl, rfl⟩
    refine AllE_nil ?_
    intro hn1 hb1
    have hC6 := hC5.grow hB7
    refine WA_tk 10 (by kernel_rfl) rfl rfl (fl_lss rfl rfl) ?_
    refine WL_lss rfl rfl rfl ?_
    refine WL_nil ?_
    refine WA_done (by kernel_rfl) ?_
    refine nrm_normal ?_
    refine W_cond rfl (fun hc5 => ?_) (fun hc5 => ?_)
    ·replace hL1 := ite_t hL1 hc5
     refine W_seq_reg ?_
     refine WL_assign rfl rfl ?_
     refine WL_nil ?_
     refine W_ret ?_
     refine nrm_ret ?_
     refine blk_ret ?_
     refine nrm_ret ?_
     refine nrm_ret ?_
     refine blk_ret ?_
     refine nrm_ret ?_
     refine nrm_ret ?_
     have hq5 := Option.some.inj hL1
     subst hq5
     dsimp only at hF
     have hq6 := Option.some.inj hF
     subst hq6
     refine fn_ret1 rfl rfl ?_
     exact ⟨_, rfl, int_res hC6 _⟩
    replace hL1 := ite_f hL1 hc5
    refine W_skip ?_
    refine nrm_normal ?_
    refine W_seq ?_
    refine W_drawn 11 rfl hmix (fun w9 hB8 => ?_)
    have hC7 := hC6.grow hB8
    refine WA_tk 0 (by kernel_rfl) rfl rfl (fl_field Try.underlying70 rfl rfl (fun w => ⟨_, Try.sizeOf35 w⟩) rfl) ?_
    refine WL_field Try.underlying70 rfl rfl (fun w => ⟨_, Try.sizeOf35 w⟩) rfl rfl ?_
    refine WL_nil ?_
    refine WA_tk 2 (by kernel_rfl) rfl rfl (fl_move rfl) ?_
    refine WL_move rfl rfl ?_
    refine WL_nil ?_
    refine WA_tk 5 (by kernel_rfl) rfl rfl (fl_field Try.underlying70 rfl rfl (fun w => ⟨_, Try.sizeOf35 w⟩) rfl) ?_
    refine WL_field Try.underlying70 rfl rfl (fun w => ⟨_, Try.sizeOf35 w⟩) rfl rfl ?_
    refine WL_nil ?_
    refine WA_tk 7 (by kernel_rfl) rfl rfl (fl_move rfl) ?_
    refine WL_move rfl rfl ?_
    refine WL_nil ?_
    obtain ⟨x5, hx3, hL1⟩ := bind_some hL1
    obtain ⟨x6, hx4, hL1⟩ := bind_some hL1
    refine WA.sub (l' := [(2, (ptr b1 0)), (3, (ptr b2 0)), (5, (.int .i64 x1)), (27, (.bool x2)), (30, (ptr b1 1)), (31, u1), (32, (.int .i64 x1)), (33, (ptr b3 o1)), (34, (.int .i64 x3)), (35, (ptr b2 1)), (36, u2), (37, (.int .i64 x1)), (38, (ptr b4 o2)), (39, (.int .i64 x4)), (40, (.bool (decide (x3 < x4)))), (41, (ptr b1 1)), (43, (.int .i64 x1)), (46, (ptr b2 1)), (48, (.int .i64 x1))]) ?_ ⟨rfl, rfl, rfl, rfl, rfl, rfl, rfl, rfl, rfl, rfl, rfl, rfl, rfl, rfl, rfl, rfl, rfl, rfl, rfl, trivial⟩
    refine WA_postsE [⟨1, [], fun vs => PW.val u1, []⟩, ⟨3, [], fun vs => PW.at [] w0 x5, []⟩, ⟨4, [], fun vs => PW.val (.int .i64 x5), []⟩, ⟨6, [], fun vs => PW.val u2, []⟩, ⟨8, [], fun vs => PW.at [] w0 x6, []⟩, ⟨9, [], fun vs => PW.val (.int .i64 x6), []⟩] [[], [1], [3], [], [6], [8]] 1 rfl (by kernel_rfl) (by kernel_rfl) rfl ?_ ?_
    ·refine StepsE_cons rfl ?_ ?_
     ·intro w10 hB9
      refine DepsE_nil ?_
      refine ⟨_, rfl, ?_⟩
      refine WL_load_box (hC7.grow hB9) 1 rfl rfl Try.isAgg35 rfl rfl ?_
      refine WL_nil ?_
      exact FinE_val (Below.refl _ _) rfl rfl ⟨rfl, rfl⟩
     refine StepsE_cons rfl ?_ ?_
     ·intro w10 hB9
      refine DepsE_cons rfl rfl rfl ?_
      rintro _ _ ⟨rfl, rfl⟩ _
      refine DepsE_nil ?_
      refine ⟨_, rfl, ?_⟩
      refine WL_index Try.underlying35 ty3 g1 hx3 rfl rfl rfl (fun b5 o3 h5 => ?_)
      refine WL_nil ?_
      exact FinE_val (Below.refl _ _) rfl rfl ⟨rfl, _, _, rfl, h5⟩
     refine StepsE_cons rfl ?_ ?_
     ·intro w10 hB9
      refine DepsE_cons rfl rfl rfl ?_
      rintro _ _ ⟨rfl, b5, o3, rfl, h5⟩ _
      refine DepsE_nil ?_
      refine ⟨_, rfl, ?_⟩
      refine WL_load ty3 h5 (hC7.keep.then hB9) rfl rfl (fun v3 h6 => ?_)
      obtain rfl := ro_int h6
      refine WL_nil ?_
      exact FinE_val (Below.refl _ _) rfl rfl ⟨rfl, rfl⟩
     refine StepsE_cons rfl ?_ ?_
     ·intro w10 hB9
      refine DepsE_nil ?_
      refine ⟨_, rfl, ?_⟩
      refine WL_load_box (hC7.grow hB9) 0 rfl rfl Try.isAgg35 rfl rfl ?_
      refine WL_nil ?_
      exact FinE_val (Below.refl _ _) rfl rfl ⟨rfl, rfl⟩
     refine StepsE_cons rfl ?_ ?_
     ·intro w10 hB9
      refine DepsE_cons rfl rfl rfl ?_
      rintro _ _ ⟨rfl, rfl⟩ _
      refine DepsE_nil ?_
      refine ⟨_, rfl, ?_⟩
      refine WL_index Try.underlying35 ty3 g2 hx4 rfl rfl rfl (fun b6 o4 h7 => ?_)
      refine WL_nil ?_
      exact FinE_val (Below.refl _ _) rfl rfl ⟨rfl, _, _, rfl, h7⟩
     refine StepsE_cons rfl ?_ ?_
     ·intro w10 hB9
      refine DepsE_cons rfl rfl rfl ?_
      rintro _ _ ⟨rfl, b6, o4, rfl, h7⟩ _
      refine DepsE_nil ?_
      refine ⟨_, rfl, ?_⟩
      refine WL_load ty3 h7 (hC7.keep.then hB9) rfl rfl (fun v4 h8 => ?_)
      obtain rfl := ro_int h8
      refine WL_nil ?_
      exact FinE_val (Below.refl _ _) rfl rfl ⟨rfl, rfl⟩
     exact StepsE_nil
    intro w11 hB10
    refine AllE_cons rfl rfl rfl ?_
    rintro _ _ ⟨rfl, rfl⟩
    refine AllE_cons rfl rfl rfl ?_
    rintro _ _ ⟨rfl, b5, o3, rfl, h5⟩
    refine AllE_cons rfl rfl rfl ?_
    rintro _ _ ⟨rfl, rfl⟩
    refine AllE_cons rfl rfl rfl ?_
    rintro _ _ ⟨rfl, rfl⟩
    refine AllE_cons rfl rfl rfl ?_
    rintro _ _ ⟨rfl, b6, o4, rfl, h7⟩
    refine AllE_cons rfl rfl rfl ?_
    rintro _ _ ⟨rfl, rfl⟩
    refine AllE_nil ?_
    intro hn2 hb2
    have hC8 := hC7.grow hB10
    refine WA_tk 10 (by kernel_rfl) rfl rfl (fl_gtr rfl rfl) ?_
    refine WL_gtr rfl rfl rfl ?_
    refine WL_nil ?_
    refine WA_done (by kernel_rfl) ?_
    refine nrm_normal ?_
    refine W_cond rfl (fun hc6 => ?_) (fun hc6 => ?_)
    ·replace hL1 := ite_t hL1 hc6
     refine W_seq_reg ?_
     refine WL_assign rfl rfl ?_
     refine WL_nil ?_
     refine W_ret ?_
     refine blk_ret ?_
     refine nrm_ret ?_
     refine nrm_ret ?_
     refine blk_ret ?_
     refine nrm_ret ?_
     refine nrm_ret ?_
     have hq7 := Option.some.inj hL1
     subst hq7
     dsimp only at hF
     have hq8 := Option.some.inj hF
     subst hq8
     refine fn_ret1 rfl rfl ?_
     exact ⟨_, rfl, int_res hC8 _⟩
    replace hL1 := ite_f hL1 hc6
    refine W_skip ?_
    refine blk_normal ?_
    refine nrm_normal ?_
    refine W_reg ?_
    refine WL_move rfl rfl ?_
    refine WL_add rfl rfl rfl ?_
    refine WL_assign rfl rfl ?_
    refine WL_nil ?_
    refine nrm_sub (l' := [(2, (ptr b1 0)), (3, (ptr b2 0)), (5, (.int .i64 (w64 (x1 + 1))))]) ⟨rfl, rfl, rfl, trivial⟩ ?_
    exact ⟨k1, Nat.lt_succ_self _, w64 (x1 + 1), rfl, ((((((Keep.of hB3).then hB4).then hB5).then hB7).then hB8).then hB10).below, hC8, hL1⟩
   replace hL1 := ite_f hL1 hc4
   refine W_exit ?_
   refine nrm_exit ?_
   refine nrm_exit ?_
   refine blk_exit ?_
   have hq9 := Option.some.inj hL1
   subst hq9
   refine nrm_sub (l' := [(2, (ptr b1 0)), (3, (ptr b2 0))]) ⟨rfl, rfl, trivial⟩ ?_
   exact ⟨rfl, rfl, ((Keep.of hB3).then hB4).below, hC4⟩
 rintro l3 _ w12 hs3 ⟨rfl, rfl, hB11, hC9⟩
 try dsimp only at hF
 refine nrm_sub' hs3 ?_
 clear hs3
 refine W_seq ?_
 refine W_seq_reg ?_
 refine WL_field Try.underlying70 rfl rfl (fun w => ⟨_, Try.sizeOf35 w⟩) rfl rfl ?_
 refine WL_load_box hC9 1 rfl rfl Try.isAgg35 rfl rfl ?_
 refine WL_len Try.underlying35 g1 rfl rfl ?_
 refine WL_field Try.underlying70 rfl rfl (fun w => ⟨_, Try.sizeOf35 w⟩) rfl rfl ?_
 refine WL_load_box hC9 0 rfl rfl Try.isAgg35 rfl rfl ?_
 refine WL_len Try.underlying35 g2 rfl rfl ?_
 refine WL_lss rfl rfl rfl ?_
 refine WL_nil ?_
 refine W_cond rfl (fun hc7 => ?_) (fun hc7 => ?_)
 ·replace hF := ite_t hF hc7
  refine W_seq_reg ?_
  refine WL_assign rfl rfl ?_
  refine WL_nil ?_
  refine W_ret ?_
  refine nrm_ret ?_
  have hq10 := Option.some.inj hF
  subst hq10
  refine fn_ret1 rfl rfl ?_
  exact ⟨_, rfl, int_res hC9 _⟩
 replace hF := ite_f hF hc7
 refine W_skip ?_
 refine nrm_normal ?_
 refine W_seq ?_
 refine W_seq_reg ?_
 refine WL_field Try.underlying70 rfl rfl (fun w => ⟨_, Try.sizeOf35 w⟩) rfl rfl ?_
 refine WL_load_box hC9 1 rfl rfl Try.isAgg35 rfl rfl ?_
 refine WL_len Try.underlying35 g1 rfl rfl ?_
 refine WL_field Try.underlying70 rfl rfl (fun w => ⟨_, Try.sizeOf35 w⟩) rfl rfl ?_
 refine WL_load_box hC9 0 rfl rfl Try.isAgg35 rfl rfl ?_
 refine WL_len Try.underlying35 g2 rfl rfl ?_
 refine WL_gtr rfl rfl rfl ?_
 refine WL_nil ?_
 refine W_cond rfl (fun hc8 => ?_) (fun hc8 => ?_)
 ·replace hF := ite_t hF hc8
  refine W_seq_reg ?_
  refine WL_assign rfl rfl ?_
  refine WL_nil ?_
  refine W_ret ?_
  refine nrm_ret ?_
  have hq11 := Option.some.inj hF
  subst hq11
  refine fn_ret1 rfl rfl ?_
  exact ⟨_, rfl, int_res hC9 _⟩
 replace hF := ite_f hF hc8
 refine W_skip ?_
 refine nrm_normal ?_
 refine W_seq_reg ?_
 refine WL_assign rfl rfl ?_
 refine WL_nil ?_
 refine W_ret ?_
 have hq12 := Option.some.inj hF
 subst hq12
 refine fn_ret1 rfl rfl ?_
 exact ⟨_, rfl, int_res hC9 _⟩

theorem c_S_HasFact {w0 : World} (a1 : (List (Int × (List Int)))) (u1 : Value) (g1 : RO [] w0 u1 a1) (a2 : (Int × (List Int))) (u2 : Value) (g2 : RO [] w0 u2 a2.2) (rr : Bool) (hF : S.HasFact a1 a2 = some rr) :
 Calls Try.prog 52 [u1, (.agg #[(.int .i64 a2.1), u2])].toArray w0 fun e w' => ∃ v, e = .returned v ∧ Res w0 rr v w' := by
 refine calls_of_W Try.func52 rfl rfl ?_
 have hC0 := Ctx.start w0
 unfold S.HasFact at hF
 refine W_seq_reg ?_
 refine WL_box (cs := [(.int .i64 a2.1), u2]) hC0 rfl rfl rfl (fun b1 w1 hC1 hB1 => ?_)
 refine WL_assign rfl rfl ?_
 refine WL_nil ?_
 refine W_seq ?_
 refine W_seq_reg ?_
 refine WL_assign rfl rfl ?_
 refine WL_nil ?_
 obtain ⟨r1, hr1, hF⟩ := bind_some hF
 refine W_norm (fun l w => .inl () = r1 ∧ l = [] ∧ Below w1.heap.size w1 w ∧ Ctx [] w0 w []) ?_ ?_
 ·refine W_block ?_
  refine W.sub (l' := [(0, u1), (3, (ptr b1 0)), (5, (.int .i64 0))]) ?_ ⟨rfl, rfl, rfl, trivial⟩
  refine W_loop (fun k l w => ∃ x1 : Int, l = [(0, u1), (3, (ptr b1 0)), (5, (.int .i64 x1))] ∧ Below w1.heap.size w1 w ∧ Ctx [] w0 w [Item.box b1 [(.int .i64 a2.1), u2]] ∧ S.HasFact_l1 a1 a2 k x1 = some r1) FUEL ⟨0, rfl, (Below.refl _ _), hC1, hr1⟩ ?_
  clear hr1
  rintro k1 _ w2 ⟨x1, rfl, hB2, hC2, hL1⟩
  cases k1 with
  | zero => rw [S.HasFact_l1] at hL1; cases hL1
  | succ k1 =>
   rw [S.HasFact_l1] at hL1
   refine W_seq ?_
   refine W_seq_reg ?_
   refine WL_move rfl rfl ?_
   refine WL_move rfl rfl ?_
   refine WL_len Try.underlying51 g1 rfl rfl ?_
   refine WL_lss rfl rfl rfl ?_
   refine WL_nil ?_
   refine W_cond rfl (fun hc1 => ?_) (fun hc1 => ?_)
   ·replace hL1 := ite_t hL1 hc1
    refine W_skip ?_
    refine nrm_normal ?_
    refine W_seq ?_
    refine W_block ?_
    refine W_seq ?_
    refine W_drawn 7 rfl hmix (fun w3 hB3 => ?_)
    have hC3 := hC2.grow hB3
    refine WA_tk 0 (by kernel_rfl) rfl rfl (fl_move rfl) ?_
    refine WL_move rfl rfl ?_
    refine WL_nil ?_
    refine WA_tk 1 (by kernel_rfl) rfl rfl (fl_move rfl) ?_
    refine WL_move rfl rfl ?_
    refine WL_nil ?_
    obtain ⟨x2, hx1, hL1⟩ := bind_some hL1
    refine WA_tk 2 (by kernel_rfl) rfl rfl (fl_index Try.underlying51 ty70 g1 hx1 rfl rfl) ?_
    refine WL_index Try.underlying51 ty70 g1 hx1 rfl rfl rfl (fun b2 o1 h1 => ?_)
    refine WL_nil ?_
    refine WA.sub (l' := [(0, u1), (3, (ptr b1 0)), (5, (.int .i64 x1)), (6, (.int .i64 x1)), (7, u1), (8, (.int .i64 (List.length a1 : Int))), (9, (.bool (decide (x1 < (List.length a1 : Int))))), (12, u1), (13, (.int .i64 x1)), (14, (ptr b2 o1))]) ?_ ⟨rfl, rfl, rfl, rfl, rfl, rfl, rfl, rfl, rfl, rfl, trivial⟩
    refine WA_postsE [⟨3, [], fun vs => PW.ro [] w0 x2, []⟩, ⟨4, [], fun vs => PW.val (.agg #[(.int .i64 a2.1), u2]), []⟩] [[], []] 2 rfl (by kernel_rfl) (by kernel_rfl) rfl ?_ ?_
    ·refine StepsE_cons rfl ?_ ?_
     ·intro w4 hB4
      refine DepsE_nil ?_
      refine ⟨_, rfl, ?_⟩
      refine WL_load ty70 h1 (hC3.keep.then hB4) rfl rfl (fun v3 h4 => ?_)
      refine WL_nil ?_
      exact FinE_val (Below.refl _ _) rfl rfl ⟨rfl, h4⟩
     refine StepsE_cons rfl ?_ ?_
     ·intro w4 hB4
      refine DepsE_nil ?_
      refine ⟨_, rfl, ?_⟩
      refine WL_load_box_agg [(.int .i64 a2.1), u2] (hC3.grow hB4) 0 rfl rfl rfl Try.isAgg70 Try.sizeOf70 rfl rfl ?_
      refine WL_nil ?_
      exact FinE_val (Below.refl _ _) rfl rfl ⟨rfl, rfl⟩
     exact StepsE_nil
    intro w5 hB5
    refine AllE_cons rfl rfl rfl ?_
    rintro v3 _ ⟨rfl, h4⟩
    obtain ⟨v2, rfl, h3⟩ := ro_st70 h4
    refine AllE_cons rfl rfl rfl ?_
    rintro _ _ ⟨rfl, rfl⟩
    refine AllE_nil ?_
    intro hn1 hb1
    have hC4 := hC3.grow hB5
    obtain ⟨x3, hr2, hL1⟩ := bind_some hL1
    refine WA_one 5 (by kernel_rfl) rfl ?_
    refine WL_call Try.call53 rfl rfl (c_S_CompareFacts x2 v2 (h3.now hC4.keep) (a2.1, a2.2) u2 (g2.now hC4.keep) x3 hr2) ?_
    intro _ w6 hv1
    obtain ⟨rfl, hB6⟩ := res_int hv1
    have hC5 := hC4.grow hB6
    refine WL_nil ?_
    refine WA_tk 6 (by kernel_rfl) rfl rfl (fl_eql rfl rfl) ?_
    refine WL_eql rfl rfl rfl ?_
    refine WL_nil ?_
    refine WA_done (by kernel_rfl) ?_
    refine nrm_normal ?_
    refine W_cond rfl (fun hc2 => ?_) (fun hc2 => ?_)
    ·replace hL1 := ite_t hL1 hc2
     refine W_seq_reg ?_
     refine WL_assign rfl rfl ?_
     refine WL_nil ?_
     refine W_ret ?_
     refine blk_ret ?_
     refine nrm_ret ?_
     refine nrm_ret ?_
     refine blk_ret ?_
     refine nrm_ret ?_
     refine nrm_ret ?_
     have hq1 := Option.some.inj hL1
     subst hq1
     dsimp only at hF
     have hq2 := Option.some.inj hF
     subst hq2
     refine fn_ret1 rfl rfl ?_
     exact ⟨_, rfl, bool_res hC5 _⟩
    replace hL1 := ite_f hL1 hc2
    refine W_skip ?_
    refine blk_normal ?_
    refine nrm_normal ?_
    refine W_reg ?_
    refine WL_move rfl rfl ?_
    refine WL_add rfl rfl rfl ?_
    refine WL_assign rfl rfl ?_
    refine WL_nil ?_
    refine nrm_sub (l' := [(0, u1), (3, (ptr b1 0)), (5, (.int .i64 (w64 (x1 + 1))))]) ⟨rfl, rfl, rfl, trivial⟩ ?_
    exact ⟨k1, Nat.lt_succ_self _, w64 (x1 + 1), rfl, ((((Keep.of hB2).then hB3).then hB5).then hB6).below, hC5, hL1⟩
   replace hL1 := ite_f hL1 hc1
   refine W_exit ?_
   refine nrm_exit ?_
   refine nrm_exit ?_
   refine blk_exit ?_
   have hq3 := Option.some.inj hL1
   subst hq3
   have hC6 := hC2.h0
   refine nrm_sub (l' := []) trivial ?_
   exact ⟨rfl, rfl, (Keep.of hB2).below, hC6⟩
 rintro l2 _ w7 hs2 ⟨rfl, rfl, hB7, hC7⟩
 try dsimp only at hF
 refine nrm_sub' hs2 ?_
 clear hs2
 refine W_seq_reg ?_
 refine WL_assign rfl rfl ?_
 refine WL_nil ?_
 refine W_ret ?_
 have hq4 := Option.some.inj hF
 subst hq4
 refine fn_ret1 rfl rfl ?_
 exact ⟨_, rfl, bool_res hC7 _⟩

theorem c_S_l2One {w0 : World} (a1 : Int) (a2 : (List Int)) (u1 : Value) (g1 : RO [] w0 u1 a2) (rr : (Int × (List Int))) (hF : S.l2One a1 a2 = some rr) :
 Calls Try.prog 54 [(.int .i64 a1), u1].toArray w0 fun e w' => ∃ v, e = .returned v ∧ Res w0 rr v w' := by
 refine calls_of_W Try.func54 rfl rfl ?_
 have hC0 := Ctx.start w0
 unfold S.l2One at hF
 refine W_seq_reg ?_
 refine WL_alloc hC0 zero70 rfl rfl (fun b1 w1 hC1 hB1 => ?_)
 refine WL_nil ?_
 refine W_seq_reg ?_
 refine WL_move rfl rfl ?_
 refine WL_buildSlice (vs := []) hC1 Try.underlying35 ty3 rfl rfl rfl rfl (by simp) rfl rfl (fun b2 w2 hC2 hB2 => ?_)
 have hC3 := hC2.row0 (α := Int)
 have hC4 := hC3.front 1 rfl
 dsimp only [List.eraseIdx, List.cons_append, List.nil_append, List.append_nil] at hC4
 have hC5 : Ctx [] w0 w2 (Item.own (.slice (some ⟨b2, 0, none⟩) 0 0) (([] : List Int) : List Int) :: [Item.box b1 [(.int .i64 0), (.slice none 0 0)]]) := hC4.rowOwn (by simp [maxLen])
 refine WL_move rfl rfl ?_
 obtain ⟨x1, hx1, hF⟩ := bind_some hF
 refine WL_append_flat (α := Int) hC5 0 rfl g1 hC5.keep Try.underlying35 ty3 rfl hx1 rfl rfl rfl (fun v1 w3 hC6 => ?_)
 try dsimp only [List.set] at hC6
 refine WL_build (vs := [(0, (.int .i64 a1)), (1, v1)]) rfl rfl rfl (built70_0_1 rfl (ro_cells (hC6.ro 0 rfl))) ?_
 refine WL_store_box_agg (cs' := [(.int .i64 a1), v1]) (new := [(.int .i64 a1), v1]) hC6 1 rfl rfl (by intro v hv; simp only [List.mem_cons, List.not_mem_nil, or_false] at hv; rcases hv with rfl | rfl; exact rfl; exact (ro_one (hC6.ro 0 rfl))) rfl Try.sizeOf70 rfl rfl (fun w4 hC7 => ?_)
 try dsimp only [List.set] at hC7
 refine WL_nil ?_
 refine W_ret ?_
 have hq1 := Option.some.inj hF
 subst hq1
 refine fn_retG1 rfl (rv_cell_agg (cs' := [(.int .i64 a1), v1]) hC7 (i := 1) rfl rfl rfl Try.isAgg70 Try.sizeOf70 rfl) ?_
 have hC8 := own_st70 a1 v1 x1 hC7
 exact ⟨_, rfl, own_res hC8 0 rfl⟩

theorem c_S_AddFact {w0 : World} (a1 : (List (Int × (List Int)))) (u1 : Value) (g1 : RO [] w0 u1 a1) (a2 : (Int × (List Int))) (u2 : Value) (g2 : RO [] w0 u2 a2.2) (rr : (List (Int × (List Int)))) (hF : S.AddFact a1 a2 = some rr) :
 Calls Try.prog 50 [u1, (.agg #[(.int .i64 a2.1), u2])].toArray w0 fun e w' => ∃ v, e = .returned v ∧ Res w0 rr v w' := by
 refine calls_of_W Try.func50 rfl rfl ?_
 have hC0 := Ctx.start w0
 unfold S.AddFact at hF
 refine W_seq_reg ?_
 refine WL_box (cs := [(.int .i64 a2.1), u2]) hC0 rfl rfl rfl (fun b1 w1 hC1 hB1 => ?_)
 refine WL_assign rfl rfl ?_
 refine WL_nil ?_
 refine W_seq_reg ?_
 refine WL_buildSlice (vs := []) hC1 Try.underlying51 ty70 rfl rfl rfl rfl (by simp) rfl rfl (fun b2 w2 hC2 hB2 => ?_)
 have hC3 := hC2.row0 (α := (Int × (List Int)))
 have hC4 := hC3.front 1 rfl
 dsimp only [List.eraseIdx, List.cons_append, List.nil_append, List.append_nil] at hC4
 have hC5 : Ctx [] w0 w2 (Item.own (.slice (some ⟨b2, 0, none⟩) 0 0) (([] : List (Int × (List Int))) : List (Int × (List Int))) :: [Item.box b1 [(.int .i64 a2.1), u2]]) := hC4.rowOwn (by simp [maxLen])
 refine WL_assign rfl rfl ?_
 refine WL_nil ?_
 refine W_seq_reg ?_
 refine WL_move rfl rfl ?_
 refine WL_load_box_agg [(.int .i64 a2.1), u2] hC5 1 rfl rfl rfl Try.isAgg70 Try.sizeOf70 rfl rfl ?_
 obtain ⟨x1, hr1, hF⟩ := bind_some hF
 refine WL_call Try.call52 rfl rfl (c_S_HasFact a1 u1 (g1.now hC5.keep) (a2.1, a2.2) u2 (g2.now hC5.keep) x1 hr1) ?_
 intro _ w3 hv1
 obtain ⟨rfl, hB3⟩ := res_bool hv1
 have hC6 := hC5.grow hB3
 refine WL_assign rfl rfl ?_
 refine WL_nil ?_
 refine W_seq ?_
 refine W_seq_reg ?_
 refine WL_assign rfl rfl ?_
 refine WL_nil ?_
 obtain ⟨r1, hr2, hF⟩ := bind_some hF
 refine W_norm (fun l w => ∃ v2 : Value, ∃ x5 : (List (Int × (List Int))), ∃ x6 : Bool, (x5, x6) = r1 ∧ l = [(3, (ptr b1 0)), (5, v2), (6, (.bool x6))] ∧ Ctx [] w0 w [Item.own v2 (x5 : (List (Int × (List Int)))), Item.box b1 [(.int .i64 a2.1), u2]]) ?_ ?_
 ·refine W_block ?_
  refine W.sub (l' := [(0, u1), (3, (ptr b1 0)), (5, (.slice (some ⟨b2, 0, none⟩) 0 0)), (6, (.bool x1)), (7, (.int .i64 0))]) ?_ ⟨rfl, rfl, rfl, rfl, rfl, trivial⟩
  refine W_loop (fun k l w => ∃ v1 : Value, ∃ x2 : (List (Int × (List Int))), ∃ x3 : Bool, ∃ x4 : Int, l = [(0, u1), (3, (ptr b1 0)), (5, v1), (6, (.bool x3)), (7, (.int .i64 x4))] ∧ Ctx [] w0 w [Item.own v1 (x2 : (List (Int × (List Int)))), Item.box b1 [(.int .i64 a2.1), u2]] ∧ S.AddFact_l1 a1 a2 k x2 x3 x4 = some r1) FUEL ⟨(.slice (some ⟨b2, 0, none⟩) 0 0), ([] : List (Int × (List Int))), x1, 0, rfl, hC6, hr2⟩ ?_
  clear hr2
  rintro k1 _ w4 ⟨v1, x2, x3, x4, rfl, hC7, hL1⟩
  cases k1 with
  | zero => rw [S.AddFact_l1] at hL1; cases hL1
  | succ k1 =>
   rw [S.AddFact_l1] at hL1
   refine W_seq ?_
   refine W_seq_reg ?_
   refine WL_move rfl rfl ?_
   refine WL_move rfl rfl ?_
   refine WL_len Try.underlying51 g1 rfl rfl ?_
   refine WL_lss rfl rfl rfl ?_
   refine WL_nil ?_
   refine W_cond rfl (fun hc1 => ?_) (fun hc1 => ?_)
   ·replace hL1 := ite_t hL1 hc1
    refine W_skip ?_
    refine nrm_normal ?_
    refine W_seq ?_
    refine W_block ?_
    refine W_seq ?_
    obtain ⟨r2, hr3, hL1⟩ := bind_some hL1
    refine W_cut (fun l w => ∃ x7 : Bool, x7 = r2 ∧ l = [(0, u1), (3, (ptr b1 0)), (5, v1), (6, (.bool x3)), (7, (.int .i64 x4)), (28, (.bool x7))] ∧ Below w4.heap.size w4 w ∧ Ctx [] w0 w [Item.own v1 (x2 : (List (Int × (List Int)))), Item.box b1 [(.int .i64 a2.1), u2]]) ?_ ?_
    ·refine W_drawn 11 rfl hmix (fun w6 hB6 => ?_)
     have hC9 := hC7.grow hB6
     refine WA_tk 0 (by kernel_rfl) rfl rfl (fl_move rfl) ?_
     refine WL_move rfl rfl ?_
     refine WL_nil ?_
     refine WA_tk 1 (by kernel_rfl) rfl rfl (fl_not rfl) ?_
     refine WL_not rfl rfl ?_
     refine WL_nil ?_
     refine WA_tk 2 (by kernel_rfl) rfl rfl (fl_move rfl) ?_
     refine WL_move rfl rfl ?_
     refine WL_nil ?_
     refine WA_fork (fun hc2 => ?_) (fun hc2 => ?_)
     ·replace hr3 := ite_t hr3 hc2
      refine WA_takeG 4 rfl (by kernel_rfl) (by kernel_rfl) (by kernel_rfl) rfl rfl rfl (fl_move rfl) ?_
      refine WL_guard rfl rfl ?_
      refine WL_move rfl rfl ?_
      refine WL_nil ?_
      refine WA_takeG 5 rfl (by kernel_rfl) (by kernel_rfl) (by kernel_rfl) rfl rfl rfl (fl_move rfl) ?_
      refine WL_guard rfl rfl ?_
      refine WL_move rfl rfl ?_
      refine WL_nil ?_
      obtain ⟨x8, hx1, hr3⟩ := bind_some hr3
      refine WA_takeG 6 rfl (by kernel_rfl) (by kernel_rfl) (by kernel_rfl) rfl rfl rfl (fl_index Try.underlying51 ty70 g1 hx1 rfl rfl) ?_
      refine WL_guard rfl rfl ?_
      refine WL_index Try.underlying51 ty70 g1 hx1 rfl rfl rfl (fun b3 o1 h1 => ?_)
      refine WL_nil ?_
      refine WA.sub (l' := [(0, u1), (3, (ptr b1 0)), (5, v1), (6, (.bool x3)), (7, (.int .i64 x4)), (12, (.int .i64 x4)), (13, u1), (14, (.int .i64 (List.length a1 : Int))), (15, (.bool (decide (x4 < (List.length a1 : Int))))), (18, (.bool x3)), (19, (.bool (!x3))), (20, (.bool true)), (22, u1), (23, (.int .i64 x4)), (24, (ptr b3 o1))]) ?_ ⟨rfl, rfl, rfl, rfl, rfl, rfl, rfl, rfl, rfl, rfl, rfl, rfl, rfl, rfl, rfl, trivial⟩
      refine WA_postsE [⟨3, [], fun vs => PW.val (.agg #[(.int .i64 a2.1), u2]), []⟩, ⟨7, [], fun vs => PW.ro [] w0 x8, []⟩] [[], []] 3 rfl (by kernel_rfl) (by kernel_rfl) rfl ?_ ?_
      ·refine StepsE_cons rfl ?_ ?_
       ·intro w7 hB7
        refine DepsE_nil ?_
        refine ⟨_, rfl, ?_⟩
        refine WL_guard rfl rfl ?_
        refine WL_load_box_agg [(.int .i64 a2.1), u2] (hC9.grow hB7) 1 rfl rfl rfl Try.isAgg70 Try.sizeOf70 rfl rfl ?_
        refine WL_nil ?_
        exact FinE_val (Below.refl _ _) rfl rfl ⟨rfl, rfl⟩
       refine StepsE_cons rfl ?_ ?_
       ·intro w7 hB7
        refine DepsE_nil ?_
        refine ⟨_, rfl, ?_⟩
        refine WL_guard rfl rfl ?_
        refine WL_load ty70 h1 (hC9.keep.then hB7) rfl rfl (fun v5 h4 => ?_)
        refine WL_nil ?_
        exact FinE_val (Below.refl _ _) rfl rfl ⟨rfl, h4⟩
       exact StepsE_nil
      intro w9 hB8
      refine AllE_cons rfl rfl rfl ?_
      rintro _ _ ⟨rfl, rfl⟩
      refine AllE_cons rfl rfl rfl ?_
      rintro v5 _ ⟨rfl, h4⟩
      obtain ⟨v4, rfl, h3⟩ := ro_st70 h4
      refine AllE_nil ?_
      intro hn1 hb1
      have hC10 := hC9.grow hB8
      obtain ⟨x9, hr4, hr3⟩ := bind_some hr3
      refine WA_one 8 (by kernel_rfl) rfl ?_
      refine WL_guard rfl rfl ?_
      refine WL_call Try.call53 rfl rfl (c_S_CompareFacts (a2.1, a2.2) u2 (g2.now hC10.keep) x8 v4 (h3.now hC10.keep) x9 hr4) ?_
      intro _ w10 hv2
      obtain ⟨rfl, hB9⟩ := res_int hv2
      have hC11 := hC10.grow hB9
      refine WL_nil ?_
      refine WA_takeG 9 rfl (by kernel_rfl) (by kernel_rfl) (by kernel_rfl) rfl rfl rfl (fl_lss rfl rfl) ?_
      refine WL_guard rfl rfl ?_
      refine WL_lss rfl rfl rfl ?_
      refine WL_nil ?_
      refine WA_tk 10 (by kernel_rfl) rfl rfl (fl_pick_t rfl rfl) ?_
      refine WL_pick_t rfl rfl rfl ?_
      refine WL_nil ?_
      refine WA_done (by kernel_rfl) ?_
      have hq1 := Option.some.inj hr3
      subst hq1
      refine nrm_sub (l' := [(0, u1), (3, (ptr b1 0)), (5, v1), (6, (.bool x3)), (7, (.int .i64 x4)), (28, (.bool (decide (x9 < 0))))]) ⟨rfl, rfl, rfl, rfl, rfl, rfl, trivial⟩ ?_
      exact ⟨(decide (x9 < 0)), rfl, rfl, (((Keep.of hB6).then hB8).then hB9).below, hC11⟩
     replace hr3 := ite_f hr3 hc2
     refine WA_sk 3 (by kernel_rfl) rfl rfl rfl rfl (by simp) rfl rfl ?_
     refine WA_sk 4 (by kernel_rfl) rfl rfl rfl rfl (by simp) rfl rfl ?_
     refine WA_sk 5 (by kernel_rfl) rfl rfl rfl rfl (by simp) rfl rfl ?_
     refine WA_sk 6 (by kernel_rfl) rfl rfl rfl rfl (by simp) rfl rfl ?_
     refine WA_sk 7 (by kernel_rfl) rfl rfl rfl rfl (by simp) rfl rfl ?_
     refine WA_sk 8 (by kernel_rfl) rfl rfl rfl rfl (by simp) rfl rfl ?_
     refine WA_sk 9 (by kernel_rfl) rfl rfl rfl rfl (by simp) rfl rfl ?_
     refine WA_tk 10 (by kernel_rfl) rfl rfl (fl_pick_f rfl rfl) ?_
     refine WL_pick_f rfl rfl rfl ?_
     refine WL_nil ?_
     refine WA_done (by kernel_rfl) ?_
     have hq2 := Option.some.inj hr3
     subst hq2
     refine nrm_sub (l' := [(0, u1), (3, (ptr b1 0)), (5, v1), (6, (.bool x3)), (7, (.int .i64 x4)), (28, (.bool false))]) ⟨rfl, rfl, rfl, rfl, rfl, rfl, trivial⟩ ?_
     exact ⟨false, rfl, rfl, (Keep.of hB6).below, hC9⟩
    rintro _ w5 ⟨x7, rfl, rfl, hB5, hC8⟩
    try dsimp only at hL1
    obtain ⟨r3, hr5, hL1⟩ := bind_some hL1
    refine W_norm (fun l w => ∃ v6 : Value, ∃ x10 : (List (Int × (List Int))), ∃ x11 : Bool, (x10, x11) = r3 ∧ l = [(0, u1), (3, (ptr b1 0)), (5, v6), (6, (.bool x11)), (7, (.int .i64 x4))] ∧ Ctx [] w0 w [Item.own v6 (x10 : (List (Int × (List Int)))), Item.box b1 [(.int .i64 a2.1), u2]]) ?_ ?_
    ·refine W_cond rfl (fun hc3 => ?_) (fun hc3 => ?_)
     ·replace hr5 := ite_t hr5 hc3
      refine W_seq_reg ?_
      refine WL_move rfl rfl ?_
      refine WL_field Try.underlying70 rfl rfl (fun w => ⟨_, Try.sizeOf3 w⟩) rfl rfl ?_
      refine WL_load_box hC8 1 rfl rfl Try.isAgg3 rfl rfl ?_
      refine WL_field Try.underlying70 rfl rfl (fun w => ⟨_, Try.sizeOf35 w⟩) rfl rfl ?_
      refine WL_load_box hC8 1 rfl rfl Try.isAgg35 rfl rfl ?_
      obtain ⟨x12, hr6, hr5⟩ := bind_some hr5
      refine WL_call Try.call54 rfl rfl (c_S_l2One a2.1 a2.2 u2 (g2.now hC8.keep) x12 hr6) ?_
      rintro v7 w12 ⟨hB11, F1, hv3, hn2, hb2⟩
      have hC13 := hC8.push hB11 (A := Item.own v7 x12) hv3 hn2 hb2
      obtain ⟨v8, rfl, hC14⟩ := st70_own hC13
      refine WL_buildSlice (vs := [(.agg #[(.int .i64 x12.1), v8])]) hC14 Try.underlying51 ty70 rfl rfl rfl rfl (by intro v hv; simp only [List.mem_cons, List.not_mem_nil, or_false] at hv; rcases hv with rfl <;> rfl) rfl rfl (fun b4 w13 hC15 hB12 => ?_)
      have hC16 := hC15.row0 (α := (Int × (List Int)))
      have hC18 := hC16.f2
      have hC17 := own_st70 x12.1 v8 x12.2 hC18
      have hC19 := hC17.row1
      have hC20 := hC19.front 1 rfl
      dsimp only [List.eraseIdx, List.cons_append, List.nil_append, List.append_nil] at hC20
      have hC21 : Ctx [] w0 w13 (Item.own (.slice (some ⟨b4, 0, none⟩) 1 1) ([(x12.1, x12.2)] : List (Int × (List Int))) :: [Item.own v1 (x2 : (List (Int × (List Int)))), Item.box b1 [(.int .i64 a2.1), u2]]) := hC20.rowOwn (by simp [maxLen])
      obtain ⟨x13, hx2, hr5⟩ := bind_some hr5
      refine WL_append_head hC21 0 rfl Try.underlying51 ty70 rfl hx2 rfl rfl rfl (fun v9 w14 hC22 => ?_)
      try dsimp only [List.set] at hC22
      refine WL_assign rfl rfl ?_
      refine WL_nil ?_
      refine W_reg ?_
      refine WL_assign rfl rfl ?_
      refine WL_nil ?_
      have hq3 := Option.some.inj hr5
      subst hq3
      refine nrm_sub (l' := [(0, u1), (3, (ptr b1 0)), (5, v9), (6, (.bool true)), (7, (.int .i64 x4))]) ⟨rfl, rfl, rfl, rfl, rfl, trivial⟩ ?_
      exact ⟨v9, x13, true, rfl, rfl, hC22⟩
     replace hr5 := ite_f hr5 hc3
     refine W_skip ?_
     have hq4 := Option.some.inj hr5
     subst hq4
     refine nrm_sub (l' := [(0, u1), (3, (ptr b1 0)), (5, v1), (6, (.bool x3)), (7, (.int .i64 x4))]) ⟨rfl, rfl, rfl, rfl, rfl, trivial⟩ ?_
     exact ⟨v1, x2, x3, rfl, rfl, hC8⟩
    rintro l3 _ w11 hs3 ⟨v6, x10, x11, rfl, rfl, hC12⟩
    try dsimp only at hL1
    refine nrm_sub' hs3 ?_
    clear hs3
    refine W_drawn 15 rfl hmix (fun w15 hB13 => ?_)
    have hC24 := hC12.grow hB13
    refine WA_tk 0 (by kernel_rfl) rfl rfl (fl_move rfl) ?_
    refine WL_move rfl rfl ?_
    refine WL_nil ?_
    refine WA_tk 1 (by kernel_rfl) rfl rfl (fl_move rfl) ?_
    refine WL_move rfl rfl ?_
    refine WL_nil ?_
    refine WA_tk 2 (by kernel_rfl) rfl rfl (fl_move rfl) ?_
    refine WL_move rfl rfl ?_
    refine WL_nil ?_
    obtain ⟨x14, hx3, hL1⟩ := bind_some hL1
    refine WA_tk 3 (by kernel_rfl) rfl rfl (fl_index Try.underlying51 ty70 g1 hx3 rfl rfl) ?_
    refine WL_index Try.underlying51 ty70 g1 hx3 rfl rfl rfl (fun b5 o2 h5 => ?_)
    refine WL_nil ?_
    refine WA_tk 4 (by kernel_rfl) rfl rfl (fl_field Try.underlying70 rfl rfl (fun w => ⟨_, Try.sizeOf3 w⟩) rfl) ?_
    refine WL_field Try.underlying70 rfl rfl (fun w => ⟨_, Try.sizeOf3 w⟩) rfl rfl ?_
    refine WL_nil ?_
    refine WA_tk 6 (by kernel_rfl) rfl rfl (fl_move rfl) ?_
    refine WL_move rfl rfl ?_
    refine WL_nil ?_
    refine WA_tk 7 (by kernel_rfl) rfl rfl (fl_move rfl) ?_
    refine WL_move rfl rfl ?_
    refine WL_nil ?_
    obtain ⟨x15, hx4, hL1⟩ := bind_some hL1
    refine WA_tk 8 (by kernel_rfl) rfl rfl (fl_index Try.underlying51 ty70 g1 hx4 rfl rfl) ?_
    refine WL_index Try.underlying51 ty70 g1 hx4 rfl rfl rfl (fun b6 o3 h6 => ?_)
    refine WL_nil ?_
    refine WA_tk 9 (by kernel_rfl) rfl rfl (fl_field Try.underlying70 rfl rfl (fun w => ⟨_, Try.sizeOf35 w⟩) rfl) ?_
    refine WL_field Try.underlying70 rfl rfl (fun w => ⟨_, Try.sizeOf35 w⟩) rfl rfl ?_
    refine WL_nil ?_
    refine WA.sub (l' := [(0, u1), (3, (ptr b1 0)), (5, v6), (6, (.bool x11)), (7, (.int .i64 x4)), (37, v6), (38, u1), (39, (.int .i64 x4)), (40, (ptr b5 o2)), (41, (ptr b5 (o2 + 0))), (43, u1), (44, (.int .i64 x4)), (45, (ptr b6 o3)), (46, (ptr b6 (o3 + 1)))]) ?_ ⟨rfl, rfl, rfl, rfl, rfl, rfl, rfl, rfl, rfl, rfl, rfl, rfl, rfl, rfl, trivial⟩
    refine WA_postsE [⟨5, [], fun vs => PW.val (.int .i64 x14.1), []⟩, ⟨10, [], fun vs => PW.ro [] w0 x15.2, []⟩] [[], []] 4 rfl (by kernel_rfl) (by kernel_rfl) rfl ?_ ?_
    ·refine StepsE_cons rfl ?_ ?_
     ·intro w16 hB14
      refine DepsE_nil ?_
      refine ⟨_, rfl, ?_⟩
      refine WL_load ty3 h5.fst (hC24.keep.then hB14) rfl rfl (fun v10 h7 => ?_)
      obtain rfl := ro_int h7
      refine WL_nil ?_
      exact FinE_val (Below.refl _ _) rfl rfl ⟨rfl, rfl⟩
     refine StepsE_cons rfl ?_ ?_
     ·intro w16 hB14
      refine DepsE_nil ?_
      refine ⟨_, rfl, ?_⟩
      refine WL_load ty35 h6.snd (hC24.keep.then hB14) rfl rfl (fun v11 h8 => ?_)
      refine WL_nil ?_
      exact FinE_val (Below.refl _ _) rfl rfl ⟨rfl, h8⟩
     exact StepsE_nil
    intro w17 hB15
    refine AllE_cons rfl rfl rfl ?_
    rintro _ _ ⟨rfl, rfl⟩
    refine AllE_cons rfl rfl rfl ?_
    rintro v11 _ ⟨rfl, h8⟩
    refine AllE_nil ?_
    intro hn3 hb3
    have hC25 := hC24.grow hB15
    obtain ⟨x16, hr7, hL1⟩ := bind_some hL1
    refine WA_one 11 (by kernel_rfl) rfl ?_
    refine WL_call Try.call54 rfl rfl (c_S_l2One x14.1 x15.2 v11 (h8.now hC25.keep) x16 hr7) ?_
    rintro v12 w18 ⟨hB16, F2, hv4, hn4, hb4⟩
    have hC26 := hC25.push hB16 (A := Item.own v12 x16) hv4 hn4 hb4
    obtain ⟨v13, rfl, hC27⟩ := st70_own hC26
    refine WL_nil ?_
    refine WA_one 12 (by kernel_rfl) rfl ?_
    refine WL_buildSlice (vs := [(.agg #[(.int .i64 x16.1), v13])]) hC27 Try.underlying51 ty70 rfl rfl rfl rfl (by intro v hv; simp only [List.mem_cons, List.not_mem_nil, or_false] at hv; rcases hv with rfl <;> rfl) rfl rfl (fun b7 w19 hC28 hB17 => ?_)
    have hC29 := hC28.row0 (α := (Int × (List Int)))
    have hC31 := hC29.f2
    have hC30 := own_st70 x16.1 v13 x16.2 hC31
    have hC32 := hC30.row1
    have hC33 := hC32.front 1 rfl
    dsimp only [List.eraseIdx, List.cons_append, List.nil_append, List.append_nil] at hC33
    have hC34 : Ctx [] w0 w19 (Item.own (.slice (some ⟨b7, 0, none⟩) 1 1) ([(x16.1, x16.2)] : List (Int × (List Int))) :: [Item.own v6 (x10 : (List (Int × (List Int)))), Item.box b1 [(.int .i64 a2.1), u2]]) := hC33.rowOwn (by simp [maxLen])
    refine WL_nil ?_
    obtain ⟨x17, hx5, hL1⟩ := bind_some hL1
    refine WA_one 13 (by kernel_rfl) rfl ?_
    refine WL_append_head hC34 0 rfl Try.underlying51 ty70 rfl hx5 rfl rfl rfl (fun v14 w20 hC35 => ?_)
    try dsimp only [List.set] at hC35
    refine WL_nil ?_
    refine WA_tk 14 (by kernel_rfl) rfl rfl (fl_assign rfl) ?_
    refine WL_assign rfl rfl ?_
    refine WL_nil ?_
    refine WA_done (by kernel_rfl) ?_
    refine blk_normal ?_
    refine nrm_normal ?_
    refine W_reg ?_
    refine WL_move rfl rfl ?_
    refine WL_add rfl rfl rfl ?_
    refine WL_assign rfl rfl ?_
    refine WL_nil ?_
    refine nrm_sub (l' := [(0, u1), (3, (ptr b1 0)), (5, v14), (6, (.bool x11)), (7, (.int .i64 (w64 (x4 + 1))))]) ⟨rfl, rfl, rfl, rfl, rfl, trivial⟩ ?_
    exact ⟨k1, Nat.lt_succ_self _, v14, x17, x11, w64 (x4 + 1), rfl, hC35, hL1⟩
   replace hL1 := ite_f hL1 hc1
   refine W_exit ?_
   refine nrm_exit ?_
   refine nrm_exit ?_
   refine blk_exit ?_
   have hq5 := Option.some.inj hL1
   subst hq5
   refine nrm_sub (l' := [(3, (ptr b1 0)), (5, v1), (6, (.bool x3))]) ⟨rfl, rfl, rfl, trivial⟩ ?_
   exact ⟨v1, x2, x3, rfl, rfl, hC7⟩
 rintro l4 _ w21 hs4 ⟨v2, x5, x6, rfl, rfl, hC37⟩
 try dsimp only at hF
 refine nrm_sub' hs4 ?_
 clear hs4
 refine W_seq ?_
 refine W_seq_reg ?_
 refine WL_move rfl rfl ?_
 refine WL_not rfl rfl ?_
 refine WL_nil ?_
 obtain ⟨r4, hr8, hF⟩ := bind_some hF
 refine W_norm (fun l w => ∃ v15 : Value, ∃ x18 : (List (Int × (List Int))), x18 = r4 ∧ l = [(5, v15)] ∧ Ctx [] w0 w [Item.own v15 (x18 : (List (Int × (List Int))))]) ?_ ?_
 ·refine W_cond rfl (fun hc4 => ?_) (fun hc4 => ?_)
  ·replace hr8 := ite_t hr8 hc4
   refine W_reg ?_
   refine WL_move rfl rfl ?_
   refine WL_field Try.underlying70 rfl rfl (fun w => ⟨_, Try.sizeOf3 w⟩) rfl rfl ?_
   refine WL_load_box hC37 1 rfl rfl Try.isAgg3 rfl rfl ?_
   refine WL_field Try.underlying70 rfl rfl (fun w => ⟨_, Try.sizeOf35 w⟩) rfl rfl ?_
   refine WL_load_box hC37 1 rfl rfl Try.isAgg35 rfl rfl ?_
   obtain ⟨x19, hr9, hr8⟩ := bind_some hr8
   refine WL_call Try.call54 rfl rfl (c_S_l2One a2.1 a2.2 u2 (g2.now hC37.keep) x19 hr9) ?_
   rintro v16 w23 ⟨hB20, F3, hv5, hn5, hb5⟩
   have hC39 := hC37.push hB20 (A := Item.own v16 x19) hv5 hn5 hb5
   obtain ⟨v17, rfl, hC40⟩ := st70_own hC39
   refine WL_buildSlice (vs := [(.agg #[(.int .i64 x19.1), v17])]) hC40 Try.underlying51 ty70 rfl rfl rfl rfl (by intro v hv; simp only [List.mem_cons, List.not_mem_nil, or_false] at hv; rcases hv with rfl <;> rfl) rfl rfl (fun b8 w24 hC41 hB21 => ?_)
   have hC42 := hC41.row0 (α := (Int × (List Int)))
   have hC44 := hC42.f2
   have hC43 := own_st70 x19.1 v17 x19.2 hC44
   have hC45 := hC43.row1
   have hC46 := hC45.front 1 rfl
   dsimp only [List.eraseIdx, List.cons_append, List.nil_append, List.append_nil] at hC46
   have hC47 : Ctx [] w0 w24 (Item.own (.slice (some ⟨b8, 0, none⟩) 1 1) ([(x19.1, x19.2)] : List (Int × (List Int))) :: [Item.own v2 (x5 : (List (Int × (List Int)))), Item.box b1 [(.int .i64 a2.1), u2]]) := hC46.rowOwn (by simp [maxLen])
   obtain ⟨x20, hx6, hr8⟩ := bind_some hr8
   refine WL_append_head hC47 0 rfl Try.underlying51 ty70 rfl hx6 rfl rfl rfl (fun v18 w25 hC48 => ?_)
   try dsimp only [List.set] at hC48
   refine WL_assign rfl rfl ?_
   refine WL_nil ?_
   have hq6 := Option.some.inj hr8
   subst hq6
   have hC50 := hC48.h1
   refine nrm_sub (l' := [(5, v18)]) ⟨rfl, trivial⟩ ?_
   exact ⟨v18, x20, rfl, rfl, hC50⟩
  replace hr8 := ite_f hr8 hc4
  refine W_skip ?_
  have hq7 := Option.some.inj hr8
  subst hq7
  have hC51 := hC37.h1
  refine nrm_sub (l' := [(5, v2)]) ⟨rfl, trivial⟩ ?_
  exact ⟨v2, x5, rfl, rfl, hC51⟩
 rintro l5 _ w22 hs5 ⟨v15, x18, rfl, rfl, hC38⟩
 try dsimp only at hF
 refine nrm_sub' hs5 ?_
 clear hs5
 refine W_seq_reg ?_
 refine WL_move rfl rfl ?_
 refine WL_assign rfl rfl ?_
 refine WL_nil ?_
 refine W_ret ?_
 have hq8 := Option.some.inj hF
 subst hq8
 refine fn_ret1 rfl rfl ?_
 exact ⟨_, rfl, own_res hC38 0 rfl⟩

theorem c_S_l2Fact {w0 : World} {Fs : List (List Nat)} (pb1 : Nat) (a1 : ((List UInt8) × Int × Int)) (u1 : Value) (g1 : RO Fs.flatten w0 u1 a1.1) (a2 : (List Int)) (u2 : Value) (g2 : RO Fs.flatten w0 u2 a2) (a3 : Int) (hH : Hold [Item.box pb1 [u1, (.int .i64 a1.2.1), (.int .i64 a1.2.2)]] w0 Fs) (hn : Fs.flatten.Nodup) (rr : ((Int × (List Int)) × ((List UInt8) × Int × Int))) (hF : S.l2Fact a1 a2 a3 = some rr) :
 Calls Try.prog 51 [(ptr pb1 0), u2, (.int .i64 a3)].toArray w0 fun e w' => ∃ v, e = .returned v ∧ ∃ q0 : Value, v = q0 ∧ Ctx Fs.flatten w0 w' [Item.own q0 (rr.1 : (Int × (List Int))), Item.box pb1 [u1, (.int .i64 rr.2.2.1), (.int .i64 rr.2.2.2)]] := by
 refine calls_of_W Try.func51 rfl rfl ?_
 have hC0 := Ctx.startIn hH hn
 unfold S.l2Fact at hF
 refine W_seq_reg ?_
 refine WL_alloc hC0 zero70 rfl rfl (fun b1 w1 hC1 hB1 => ?_)
 refine WL_nil ?_
 refine W_seq_reg ?_
 refine WL_move rfl rfl ?_
 refine WL_move rfl rfl ?_
 refine WL_len Try.underlying35 g2 rfl rfl ?_
 obtain ⟨x1, hr1, hF⟩ := bind_some hF
 have hC2 := hC1.f1
 obtain ⟨Fs1, hH1, hn1, hF1, hO1, hb1⟩ := Ctx.lend2 (As := [Item.box b1 [(.int .i64 0), (.slice none 0 0)]]) [Item.box pb1 [u1, (.int .i64 a1.2.1), (.int .i64 a1.2.2)]] hC2
 refine WL_call Try.call15 rfl rfl (c_S_l1Below pb1 (a1.1, a1.2.1, a1.2.2) u1 (RO.lent g1 hC2.keep hF1) (List.length a2 : Int) hH1 hn1 x1 hr1) ?_
 rintro _ w2 ⟨rfl, hq1⟩
 have hC3 : Ctx Fs.flatten w0 w2 [Item.box pb1 [u1, (.int .i64 x1.2.2.1), (.int .i64 x1.2.2.2)], Item.box b1 [(.int .i64 0), (.slice none 0 0)]] := hb1 _ _ hq1
 refine WL_build (vs := [(0, (.int .i64 x1.1))]) rfl rfl rfl (built70_0 rfl) ?_
 refine WL_alloc hC3 zero70 rfl rfl (fun b2 w3 hC4 hB2 => ?_)
 refine WL_store_box_agg (cs' := [(.int .i64 x1.1), (.slice none 0 0)]) (new := [(.int .i64 x1.1), (.slice none 0 0)]) hC4 0 rfl rfl (by intro v hv; simp only [List.mem_cons, List.not_mem_nil, or_false] at hv; rcases hv with rfl | rfl; exact rfl; exact rfl) rfl Try.sizeOf70 rfl rfl (fun w4 hC5 => ?_)
 try dsimp only [List.set] at hC5
 refine WL_nil ?_
 refine W_seq ?_
 refine W_seq_reg ?_
 refine WL_assign rfl rfl ?_
 refine WL_nil ?_
 obtain ⟨r1, hr2, hF⟩ := bind_some hF
 refine W_norm (fun l w => ∃ x7 : Int, ∃ v2 : Value, ∃ x8 : (List Int), ∃ x9 : Int, ∃ x10 : Int, (x7, x8, x9, x10) = r1 ∧ l = [(6, (ptr b1 0)), (7, (ptr b2 0))] ∧ Ctx Fs.flatten w0 w [Item.own v2 (x8 : (List Int)), Item.box b2 [(.int .i64 x7), v2], Item.box pb1 [u1, (.int .i64 x9), (.int .i64 x10)], Item.box b1 [(.int .i64 0), (.slice none 0 0)]]) ?_ ?_
 ·refine W_block ?_
  have hC22 := hC5.triv (nil_val (α := Int))
  refine W.sub (l' := [(0, (ptr pb1 0)), (1, u2), (2, (.int .i64 a3)), (6, (ptr b1 0)), (7, (ptr b2 0)), (8, (.int .i64 0))]) ?_ ⟨rfl, rfl, rfl, rfl, rfl, rfl, trivial⟩
  refine W_loop (fun k l w => ∃ x2 : Int, ∃ v1 : Value, ∃ x3 : (List Int), ∃ x4 : Int, ∃ x5 : Int, ∃ x6 : Int, l = [(0, (ptr pb1 0)), (1, u2), (2, (.int .i64 a3)), (6, (ptr b1 0)), (7, (ptr b2 0)), (8, (.int .i64 x6))] ∧ Ctx Fs.flatten w0 w [Item.own v1 (x3 : (List Int)), Item.box b2 [(.int .i64 x2), v1], Item.box pb1 [u1, (.int .i64 x4), (.int .i64 x5)], Item.box b1 [(.int .i64 0), (.slice none 0 0)]] ∧ S.l2Fact_l1 a2 a1 a3 k x2 x3 x4 x5 x6 = some r1) FUEL ⟨x1.1, (.slice none 0 0), [], x1.2.2.1, x1.2.2.2, 0, rfl, hC22, hr2⟩ ?_
  clear hr2
  rintro k1 _ w5 ⟨x2, v1, x3, x4, x5, x6, rfl, hC6, hL1⟩
  cases k1 with
  | zero => rw [S.l2Fact_l1] at hL1; cases hL1
  | succ k1 =>
   rw [S.l2Fact_l1] at hL1
   refine W_seq ?_
   refine W_seq_reg ?_
   refine WL_move rfl rfl ?_
   refine WL_move rfl rfl ?_
   refine WL_field Try.underlying70 rfl rfl (fun w => ⟨_, Try.sizeOf3 w⟩) rfl rfl ?_
   refine WL_load_box hC6 1 rfl rfl Try.isAgg3 rfl rfl ?_
   obtain ⟨x11, hx1, hL1⟩ := bind_some hL1
   refine WL_index Try.underlying35 ty3 g2 hx1 rfl rfl rfl (fun b3 o1 h1 => ?_)
   refine WL_load ty3 h1 hC6.keep rfl rfl (fun v3 h2 => ?_)
   obtain rfl := ro_int h2
   refine WL_lss rfl rfl rfl ?_
   refine WL_nil ?_
   refine W_cond rfl (fun hc1 => ?_) (fun hc1 => ?_)
   ·replace hL1 := ite_t hL1 hc1
    refine W_skip ?_
    refine nrm_normal ?_
    refine W_seq ?_
    refine W_block ?_
    refine W_seq_reg ?_
    refine WL_move rfl rfl ?_
    refine WL_move rfl rfl ?_
    obtain ⟨x12, hr3, hL1⟩ := bind_some hL1
    have hC7 := hC6.f2
    obtain ⟨Fs2, hH2, hn2, hF2, hO2, hb2⟩ := Ctx.lend2 (As := [Item.own v1 (x3 : (List Int)), Item.box b2 [(.int .i64 x2), v1], Item.box b1 [(.int .i64 0), (.slice none 0 0)]]) [Item.box pb1 [u1, (.int .i64 x4), (.int .i64 x5)]] hC7
    refine WL_call Try.call15 rfl rfl (c_S_l1Below pb1 (a1.1, x4, x5) u1 (RO.lent g1 hC7.keep hF2) a3 hH2 hn2 x12 hr3) ?_
    rintro _ w6 ⟨rfl, hq2⟩
    have hC8 : Ctx Fs.flatten w0 w6 [Item.box pb1 [u1, (.int .i64 x12.2.2.1), (.int .i64 x12.2.2.2)], Item.own v1 (x3 : (List Int)), Item.box b2 [(.int .i64 x2), v1], Item.box b1 [(.int .i64 0), (.slice none 0 0)]] := hb2 _ _ hq2
    refine WL_assign rfl rfl ?_
    refine WL_nil ?_
    refine W_reg ?_
    refine WL_field Try.underlying70 rfl rfl (fun w => ⟨_, Try.sizeOf35 w⟩) rfl rfl ?_
    refine WL_load_box hC8 2 rfl rfl Try.isAgg35 rfl rfl ?_
    refine WL_move rfl rfl ?_
    refine WL_buildSlice (vs := [(.int .i64 x12.1)]) hC8 Try.underlying35 ty3 rfl rfl rfl rfl (by intro v hv; simp only [List.mem_cons, List.not_mem_nil, or_false] at hv; rcases hv with rfl <;> rfl) rfl rfl (fun b4 w7 hC9 hB4 => ?_)
    have hC10 := hC9.row0 (α := Int)
    have hC11 := hC10.triv (int_val (x12.1))
    have hC12 := hC11.row1
    have hC13 := hC12.front 1 rfl
    dsimp only [List.eraseIdx, List.cons_append, List.nil_append, List.append_nil] at hC13
    have hC14 : Ctx Fs.flatten w0 w7 (Item.own (.slice (some ⟨b4, 0, none⟩) 1 1) ([x12.1] : List Int) :: [Item.box pb1 [u1, (.int .i64 x12.2.2.1), (.int .i64 x12.2.2.2)], Item.own v1 (x3 : (List Int)), Item.box b2 [(.int .i64 x2), v1], Item.box b1 [(.int .i64 0), (.slice none 0 0)]]) := hC13.rowOwn (by simp [maxLen])
    obtain ⟨x13, hx2, hL1⟩ := bind_some hL1
    refine WL_append_flat (α := Int) hC14 2 rfl (hC14.ro 0 rfl) (Keep.refl _ _) Try.underlying35 ty3 rfl hx2 rfl rfl rfl (fun v4 w9 hC15 => ?_)
    try dsimp only [List.set] at hC15
    refine WL_field Try.underlying70 rfl rfl (fun w => ⟨_, Try.sizeOf35 w⟩) rfl rfl ?_
    refine WL_store_box (cs' := [(.int .i64 x2), v4]) hC15 3 rfl rfl (ro_one (hC15.ro 2 rfl)) rfl Try.sizeOf35 rfl rfl (fun w10 hC16 => ?_)
    try dsimp only [List.set] at hC16
    refine WL_nil ?_
    refine blk_normal ?_
    refine nrm_normal ?_
    refine W_reg ?_
    refine WL_move rfl rfl ?_
    refine WL_add rfl rfl rfl ?_
    refine WL_assign rfl rfl ?_
    refine WL_nil ?_
    have hC17 := hC16.f4
    have hC18 := hC17.f2
    have hC19 := hC18.f4
    have hC20 := hC19.f4
    have hC21 := hC20.h4
    refine nrm_sub (l' := [(0, (ptr pb1 0)), (1, u2), (2, (.int .i64 a3)), (6, (ptr b1 0)), (7, (ptr b2 0)), (8, (.int .i64 (w64 (x6 + 1))))]) ⟨rfl, rfl, rfl, rfl, rfl, rfl, trivial⟩ ?_
    exact ⟨k1, Nat.lt_succ_self _, x2, v4, x13, x12.2.2.1, x12.2.2.2, w64 (x6 + 1), rfl, hC21, hL1⟩
   replace hL1 := ite_f hL1 hc1
   refine W_exit ?_
   refine nrm_exit ?_
   refine nrm_exit ?_
   refine blk_exit ?_
   have hq3 := Option.some.inj hL1
   subst hq3
   refine nrm_sub (l' := [(6, (ptr b1 0)), (7, (ptr b2 0))]) ⟨rfl, rfl, trivial⟩ ?_
   exact ⟨x2, v1, x3, x4, x5, rfl, rfl, hC6⟩
 rintro l2 _ w11 hs2 ⟨x7, v2, x8, x9, x10, rfl, rfl, hC23⟩
 try dsimp only at hF
 refine nrm_sub' hs2 ?_
 clear hs2
 refine W_seq_reg ?_
 refine WL_load_box_agg [(.int .i64 x7), v2] hC23 1 rfl rfl rfl Try.isAgg70 Try.sizeOf70 rfl rfl ?_
 refine WL_store_box_agg (cs' := [(.int .i64 x7), v2]) (new := [(.int .i64 x7), v2]) hC23 3 rfl rfl (by intro v hv; simp only [List.mem_cons, List.not_mem_nil, or_false] at hv; rcases hv with rfl | rfl; exact rfl; exact (ro_one (hC23.ro 0 rfl))) rfl Try.sizeOf70 rfl rfl (fun w12 hC24 => ?_)
 try dsimp only [List.set] at hC24
 refine WL_nil ?_
 refine W_ret ?_
 have hq4 := Option.some.inj hF
 subst hq4
 refine fn_retG1 rfl (rv_cell_agg (cs' := [(.int .i64 x7), v2]) hC24 (i := 3) rfl rfl rfl Try.isAgg70 Try.sizeOf70 rfl) ?_
 have hC25 := hC24.f2
 have hC27 := hC25.f1
 have hC26 := own_st70 x7 v2 x8 hC27
 have hC28 := hC26.h2
 exact ⟨_, rfl, _, rfl, hC28⟩

theorem c_S_l2Facts {w0 : World} {Fs : List (List Nat)} (pb1 : Nat) (a1 : ((List UInt8) × Int × Int)) (u1 : Value) (g1 : RO Fs.flatten w0 u1 a1.1) (a2 : (List Int)) (u2 : Value) (g2 : RO Fs.flatten w0 u2 a2) (a3 : Int) (hH : Hold [Item.box pb1 [u1, (.int .i64 a1.2.1), (.int .i64 a1.2.2)]] w0 Fs) (hn : Fs.flatten.Nodup) (rr : ((List (Int × (List Int))) × ((List UInt8) × Int × Int))) (hF : S.l2Facts a1 a2 a3 = some rr) :
 Calls Try.prog 41 [(ptr pb1 0), u2, (.int .i64 a3)].toArray w0 fun e w' => ∃ v, e = .returned v ∧ ∃ q0 : Value, v = q0 ∧ Ctx Fs.flatten w0 w' [Item.own q0 (rr.1 : (List (Int × (List Int)))), Item.box pb1 [u1, (.int .i64 rr.2.2.1), (.int .i64 rr.2.2.2)]] := by
 refine calls_of_W Try.func41 rfl rfl ?_
 have hC0 := Ctx.startIn hH hn
 unfold S.l2Facts at hF
 refine W_seq_reg ?_
 refine WL_assign rfl rfl ?_
 refine WL_nil ?_
 refine W_seq_reg ?_
 refine WL_buildSlice (vs := []) hC0 Try.underlying51 ty70 rfl rfl rfl rfl (by simp) rfl rfl (fun b1 w1 hC1 hB1 => ?_)
 have hC2 := hC1.row0 (α := (Int × (List Int)))
 have hC3 := hC2.front 1 rfl
 dsimp only [List.eraseIdx, List.cons_append, List.nil_append, List.append_nil] at hC3
 have hC4 : Ctx Fs.flatten w0 w1 (Item.own (.slice (some ⟨b1, 0, none⟩) 0 0) (([] : List (Int × (List Int))) : List (Int × (List Int))) :: [Item.box pb1 [u1, (.int .i64 a1.2.1), (.int .i64 a1.2.2)]]) := hC3.rowOwn (by simp [maxLen])
 refine WL_assign rfl rfl ?_
 refine WL_nil ?_
 refine W_seq ?_
 refine W_seq_reg ?_
 refine WL_move rfl rfl ?_
 refine WL_move rfl rfl ?_
 refine WL_add rfl rfl rfl ?_
 obtain ⟨x1, hr1, hF⟩ := bind_some hF
 have hC5 := hC4.f1
 obtain ⟨Fs1, hH1, hn1, hF1, hO1, hb1⟩ := Ctx.lend2 (As := [Item.own (.slice (some ⟨b1, 0, none⟩) 0 0) (([] : List (Int × (List Int))) : (List (Int × (List Int))))]) [Item.box pb1 [u1, (.int .i64 a1.2.1), (.int .i64 a1.2.2)]] hC5
 refine WL_call Try.call15 rfl rfl (c_S_l1Below pb1 (a1.1, a1.2.1, a1.2.2) u1 (RO.lent g1 hC5.keep hF1) (w64 (a3 + 1)) hH1 hn1 x1 hr1) ?_
 rintro _ w2 ⟨rfl, hq1⟩
 have hC6 : Ctx Fs.flatten w0 w2 [Item.box pb1 [u1, (.int .i64 x1.2.2.1), (.int .i64 x1.2.2.2)], Item.own (.slice (some ⟨b1, 0, none⟩) 0 0) (([] : List (Int × (List Int))) : (List (Int × (List Int))))] := hb1 _ _ hq1
 refine WL_assign rfl rfl ?_
 refine WL_nil ?_
 obtain ⟨r1, hr2, hF⟩ := bind_some hF
 refine W_norm (fun l w => ∃ x6 : Int, ∃ x7 : Int, ∃ v2 : Value, ∃ x8 : (List (Int × (List Int))), (x6, x7, x8) = r1 ∧ l = [(7, v2)] ∧ Ctx Fs.flatten w0 w [Item.box pb1 [u1, (.int .i64 x6), (.int .i64 x7)], Item.own v2 (x8 : (List (Int × (List Int))))]) ?_ ?_
 ·refine W_block ?_
  refine W.sub (l' := [(0, (ptr pb1 0)), (1, u2), (7, (.slice (some ⟨b1, 0, none⟩) 0 0)), (8, (.int .i64 x1.1))]) ?_ ⟨rfl, rfl, rfl, rfl, trivial⟩
  refine W_loop (fun k l w => ∃ x2 : Int, ∃ x3 : Int, ∃ v1 : Value, ∃ x4 : (List (Int × (List Int))), ∃ x5 : Int, l = [(0, (ptr pb1 0)), (1, u2), (7, v1), (8, (.int .i64 x5))] ∧ Ctx Fs.flatten w0 w [Item.box pb1 [u1, (.int .i64 x2), (.int .i64 x3)], Item.own v1 (x4 : (List (Int × (List Int))))] ∧ S.l2Facts_l1 a1 a2 k x2 x3 x4 x5 = some r1) FUEL ⟨x1.2.2.1, x1.2.2.2, (.slice (some ⟨b1, 0, none⟩) 0 0), ([] : List (Int × (List Int))), x1.1, rfl, hC6, hr2⟩ ?_
  clear hr2
  rintro k1 _ w3 ⟨x2, x3, v1, x4, x5, rfl, hC7, hL1⟩
  cases k1 with
  | zero => rw [S.l2Facts_l1] at hL1; cases hL1
  | succ k1 =>
   rw [S.l2Facts_l1] at hL1
   refine W_seq ?_
   refine W_seq_reg ?_
   refine WL_move rfl rfl ?_
   refine WL_gtr rfl rfl rfl ?_
   refine WL_nil ?_
   refine W_cond rfl (fun hc1 => ?_) (fun hc1 => ?_)
   ·replace hL1 := ite_t hL1 hc1
    refine W_skip ?_
    refine nrm_normal ?_
    refine W_seq ?_
    refine W_block ?_
    refine W_reg ?_
    refine WL_move rfl rfl ?_
    refine WL_move rfl rfl ?_
    refine WL_move rfl rfl ?_
    obtain ⟨x9, hr3, hL1⟩ := bind_some hL1
    obtain ⟨Fs2, hH2, hn2, hF2, hO2, hb2⟩ := Ctx.lend2 (As := [Item.own v1 (x4 : (List (Int × (List Int))))]) [Item.box pb1 [u1, (.int .i64 x2), (.int .i64 x3)]] hC7
    refine WL_call Try.call51 rfl rfl (c_S_l2Fact pb1 (a1.1, x2, x3) u1 (RO.lent g1 hC7.keep hF2) a2 u2 (RO.lent g2 hC7.keep hF2) 4 hH2 hn2 x9 hr3) ?_
    rintro v3 w4 ⟨_, rfl, hq2⟩
    have hC8 : Ctx Fs.flatten w0 w4 [Item.own v3 (x9.1 : (Int × (List Int))), Item.box pb1 [u1, (.int .i64 x9.2.2.1), (.int .i64 x9.2.2.2)], Item.own v1 (x4 : (List (Int × (List Int))))] := hb2 _ _ hq2
    obtain ⟨v4, rfl, hC9⟩ := st70_own hC8
    obtain ⟨x10, hr4, hL1⟩ := bind_some hL1
    refine WL_call Try.call50 rfl rfl (c_S_AddFact x4 v1 ((hC9.ro 2 rfl).now (Keep.refl _ _)) x9.1 v4 ((hC9.ro 0 rfl).now (Keep.refl _ _)) x10 hr4) ?_
    rintro v5 w5 ⟨hB3, F1, hv1, hn3, hb3⟩
    have hC10 := hC9.push hB3 (A := Item.own v5 x10) hv1 hn3 hb3
    refine WL_assign rfl rfl ?_
    refine WL_nil ?_
    refine blk_normal ?_
    refine nrm_normal ?_
    refine W_reg ?_
    refine WL_move rfl rfl ?_
    refine WL_sub rfl rfl rfl ?_
    refine WL_assign rfl rfl ?_
    refine WL_nil ?_
    have hC11 := hC10.f2
    have hC12 := hC11.h2
    refine nrm_sub (l' := [(0, (ptr pb1 0)), (1, u2), (7, v5), (8, (.int .i64 (w64 (x5 - 1))))]) ⟨rfl, rfl, rfl, rfl, trivial⟩ ?_
    exact ⟨k1, Nat.lt_succ_self _, x9.2.2.1, x9.2.2.2, v5, x10, w64 (x5 - 1), rfl, hC12, hL1⟩
   replace hL1 := ite_f hL1 hc1
   refine W_exit ?_
   refine nrm_exit ?_
   refine nrm_exit ?_
   refine blk_exit ?_
   have hq3 := Option.some.inj hL1
   subst hq3
   refine nrm_sub (l' := [(7, v1)]) ⟨rfl, trivial⟩ ?_
   exact ⟨x2, x3, v1, x4, rfl, rfl, hC7⟩
 rintro l2 _ w6 hs2 ⟨x6, x7, v2, x8, rfl, rfl, hC13⟩
 try dsimp only at hF
 refine nrm_sub' hs2 ?_
 clear hs2
 refine W_seq_reg ?_
 refine WL_move rfl rfl ?_
 refine WL_assign rfl rfl ?_
 refine WL_nil ?_
 refine W_ret ?_
 have hq4 := Option.some.inj hF
 subst hq4
 refine fn_ret1 rfl rfl ?_
 have hC14 := hC13.f1
 exact ⟨_, rfl, _, rfl, hC14⟩

theorem c_S_IsSchema {w0 : World} (a1 : (List Int)) (u1 : Value) (g1 : RO [] w0 u1 a1) (rr : Bool) (hF : S.IsSchema a1 = some rr) :
 Calls Try.prog 47 [u1].toArray w0 fun e w' => ∃ v, e = .returned v ∧ Res w0 rr v w' := by
 refine calls_of_W Try.func47 rfl rfl ?_
 have hC0 := Ctx.start w0
 unfold S.IsSchema at hF
 refine W_seq_reg ?_
 refine WL_assign rfl rfl ?_
 refine WL_nil ?_
 refine W_seq ?_
 refine W_seq_reg ?_
 refine WL_assign rfl rfl ?_
 refine WL_nil ?_
 obtain ⟨r1, hr1, hF⟩ := bind_some hF
 refine W_norm (fun l w => .inl () = r1 ∧ l = [(0, u1)] ∧ Below w0.heap.size w0 w ∧ Ctx [] w0 w []) ?_ ?_
 ·refine W_block ?_
  refine W.sub (l' := [(0, u1), (3, (.int .i64 0))]) ?_ ⟨rfl, rfl, trivial⟩
  refine W_loop (fun k l w => ∃ x1 : Int, l = [(0, u1), (3, (.int .i64 x1))] ∧ Below w0.heap.size w0 w ∧ Ctx [] w0 w [] ∧ S.IsSchema_l1 a1 k x1 = some r1) FUEL ⟨0, rfl, (Below.refl _ _), hC0, hr1⟩ ?_
  clear hr1
  rintro k1 _ w1 ⟨x1, rfl, hB1, hC1, hL1⟩
  cases k1 with
  | zero => rw [S.IsSchema_l1] at hL1; cases hL1
  | succ k1 =>
   rw [S.IsSchema_l1] at hL1
   refine W_seq ?_
   refine W_seq_reg ?_
   refine WL_move rfl rfl ?_
   refine WL_move rfl rfl ?_
   refine WL_len Try.underlying35 g1 rfl rfl ?_
   refine WL_lss rfl rfl rfl ?_
   refine WL_nil ?_
   refine W_cond rfl (fun hc1 => ?_) (fun hc1 => ?_)
   ·replace hL1 := ite_t hL1 hc1
    refine W_skip ?_
    refine nrm_normal ?_
    refine W_seq ?_
    refine W_block ?_
    refine W_seq_reg ?_
    refine WL_move rfl rfl ?_
    refine WL_move rfl rfl ?_
    obtain ⟨x2, hx1, hL1⟩ := bind_some hL1
    refine WL_index Try.underlying35 ty3 g1 hx1 rfl rfl rfl (fun b1 o1 h1 => ?_)
    refine WL_load ty3 h1 hC1.keep rfl rfl (fun v1 h2 => ?_)
    obtain rfl := ro_int h2
    obtain ⟨x3, hr2, hL1⟩ := bind_some hL1
    refine WL_call Try.call29 rfl rfl (c_S_l1In x2 1 3 x3 hr2) ?_
    intro _ w2 hv1
    obtain ⟨rfl, hB2⟩ := res_bool hv1
    have hC2 := hC1.grow hB2
    refine WL_not rfl rfl ?_
    refine WL_nil ?_
    refine W_cond rfl (fun hc2 => ?_) (fun hc2 => ?_)
    ·replace hL1 := ite_t hL1 hc2
     refine W_seq_reg ?_
     refine WL_assign rfl rfl ?_
     refine WL_nil ?_
     refine W_ret ?_
     refine blk_ret ?_
     refine nrm_ret ?_
     refine nrm_ret ?_
     refine blk_ret ?_
     refine nrm_ret ?_
     refine nrm_ret ?_
     have hq1 := Option.some.inj hL1
     subst hq1
     dsimp only at hF
     have hq2 := Option.some.inj hF
     subst hq2
     refine fn_ret1 rfl rfl ?_
     exact ⟨_, rfl, bool_res hC2 _⟩
    replace hL1 := ite_f hL1 hc2
    refine W_skip ?_
    refine blk_normal ?_
    refine nrm_normal ?_
    refine W_reg ?_
    refine WL_move rfl rfl ?_
    refine WL_add rfl rfl rfl ?_
    refine WL_assign rfl rfl ?_
    refine WL_nil ?_
    refine nrm_sub (l' := [(0, u1), (3, (.int .i64 (w64 (x1 + 1))))]) ⟨rfl, rfl, trivial⟩ ?_
    exact ⟨k1, Nat.lt_succ_self _, w64 (x1 + 1), rfl, ((Keep.of hB1).then hB2).below, hC2, hL1⟩
   replace hL1 := ite_f hL1 hc1
   refine W_exit ?_
   refine nrm_exit ?_
   refine nrm_exit ?_
   refine blk_exit ?_
   have hq3 := Option.some.inj hL1
   subst hq3
   refine nrm_sub (l' := [(0, u1)]) ⟨rfl, trivial⟩ ?_
   exact ⟨rfl, rfl, (Keep.of hB1).below, hC1⟩
 rintro l2 _ w3 hs2 ⟨rfl, rfl, hB3, hC3⟩
 try dsimp only at hF
 refine nrm_sub' hs2 ?_
 clear hs2
 refine W_seq_reg ?_
 refine WL_move rfl rfl ?_
 refine WL_len Try.underlying35 g1 rfl rfl ?_
 obtain ⟨x4, hr3, hF⟩ := bind_some hF
 refine WL_call Try.call29 rfl rfl (c_S_l1In (List.length a1 : Int) 1 3 x4 hr3) ?_
 intro _ w4 hv2
 obtain ⟨rfl, hB4⟩ := res_bool hv2
 have hC4 := hC3.grow hB4
 refine WL_assign rfl rfl ?_
 refine WL_nil ?_
 refine W_ret ?_
 have hq4 := Option.some.inj hF
 subst hq4
 refine fn_ret1 rfl rfl ?_
 exact ⟨_, rfl, bool_res hC4 _⟩

theorem c_S_l1PickInt {w0 : World} {Fs : List (List Nat)} (pb1 : Nat) (a1 : ((List UInt8) × Int × Int)) (u1 : Value) (g1 : RO Fs.flatten w0 u1 a1.1) (a2 : (List Int)) (u2 : Value) (g2 : RO Fs.flatten w0 u2 a2) (hH : Hold [Item.box pb1 [u1, (.int .i64 a1.2.1), (.int .i64 a1.2.2)]] w0 Fs) (hn : Fs.flatten.Nodup) (rr : (Int × ((List UInt8) × Int × Int))) (hF : S.l1PickInt a1 a2 = some rr) :
 Calls Try.prog 45 [(ptr pb1 0), u2].toArray w0 fun e w' => ∃ v, e = .returned v ∧ v = (.int .i64 rr.1) ∧ Ctx Fs.flatten w0 w' [Item.box pb1 [u1, (.int .i64 rr.2.2.1), (.int .i64 rr.2.2.2)]] := by
 refine calls_of_W Try.func45 rfl rfl ?_
 have hC0 := Ctx.startIn hH hn
 unfold S.l1PickInt at hF
 refine W_seq_reg ?_
 refine WL_assign rfl rfl ?_
 refine WL_nil ?_
 refine W_seq_reg ?_
 refine WL_move rfl rfl ?_
 refine WL_move rfl rfl ?_
 refine WL_move rfl rfl ?_
 refine WL_len Try.underlying35 g2 rfl rfl ?_
 obtain ⟨x1, hr1, hF⟩ := bind_some hF
 obtain ⟨Fs1, hH1, hn1, hF1, hO1, hb1⟩ := Ctx.lend2 (As := []) [Item.box pb1 [u1, (.int .i64 a1.2.1), (.int .i64 a1.2.2)]] hC0
 refine WL_call Try.call15 rfl rfl (c_S_l1Below pb1 (a1.1, a1.2.1, a1.2.2) u1 (RO.lent g1 hC0.keep hF1) (List.length a2 : Int) hH1 hn1 x1 hr1) ?_
 rintro _ w1 ⟨rfl, hq1⟩
 have hC1 : Ctx Fs.flatten w0 w1 [Item.box pb1 [u1, (.int .i64 x1.2.2.1), (.int .i64 x1.2.2.2)]] := hb1 _ _ hq1
 obtain ⟨x2, hx1, hF⟩ := bind_some hF
 refine WL_index Try.underlying35 ty3 g2 hx1 rfl rfl rfl (fun b1 o1 h1 => ?_)
 refine WL_load ty3 h1 hC1.keep rfl rfl (fun v1 h2 => ?_)
 obtain rfl := ro_int h2
 refine WL_assign rfl rfl ?_
 refine WL_nil ?_
 refine W_ret ?_
 have hq2 := Option.some.inj hF
 subst hq2
 refine fn_ret1 rfl rfl ?_
 exact ⟨_, rfl, rfl, hC1⟩

theorem c_S_l2AnyFact {w0 : World} {Fs : List (List Nat)} (pb1 : Nat) (a1 : ((List UInt8) × Int × Int)) (u1 : Value) (g1 : RO Fs.flatten w0 u1 a1.1) (a2 : (List Int)) (u2 : Value) (g2 : RO Fs.flatten w0 u2 a2) (hH : Hold [Item.box pb1 [u1, (.int .i64 a1.2.1), (.int .i64 a1.2.2)]] w0 Fs) (hn : Fs.flatten.Nodup) (rr : ((Int × (List Int)) × ((List UInt8) × Int × Int))) (hF : S.l2AnyFact a1 a2 = some rr) :
 Calls Try.prog 48 [(ptr pb1 0), u2].toArray w0 fun e w' => ∃ v, e = .returned v ∧ ∃ q0 : Value, v = q0 ∧ Ctx Fs.flatten w0 w' [Item.own q0 (rr.1 : (Int × (List Int))), Item.box pb1 [u1, (.int .i64 rr.2.2.1), (.int .i64 rr.2.2.2)]] := by
 refine calls_of_W Try.func48 rfl rfl ?_
 have hC0 := Ctx.startIn hH hn
 unfold S.l2AnyFact at hF
 refine W_seq_reg ?_
 refine WL_alloc hC0 zero70 rfl rfl (fun b1 w1 hC1 hB1 => ?_)
 refine WL_nil ?_
 refine W_seq_reg ?_
 refine WL_buildSlice (vs := [(.int .i64 1)]) hC1 Try.underlying35 ty3 rfl rfl rfl rfl (by intro v hv; simp only [List.mem_cons, List.not_mem_nil, or_false] at hv; rcases hv with rfl <;> rfl) rfl rfl (fun b2 w2 hC2 hB2 => ?_)
 have hC3 := hC2.row0 (α := Int)
 have hC4 := hC3.triv (int_val (1))
 have hC5 := hC4.row1
 have hC6 := hC5.front 1 rfl
 dsimp only [List.eraseIdx, List.cons_append, List.nil_append, List.append_nil] at hC6
 have hC7 : Ctx Fs.flatten w0 w2 (Item.own (.slice (some ⟨b2, 0, none⟩) 1 1) ([1] : List Int) :: [Item.box b1 [(.int .i64 0), (.slice none 0 0)], Item.box pb1 [u1, (.int .i64 a1.2.1), (.int .i64 a1.2.2)]]) := hC6.rowOwn (by simp [maxLen])
 refine WL_build (vs := [(1, (.slice (some ⟨b2, 0, none⟩) 1 1))]) rfl rfl rfl (built70_1 (ro_cells (hC7.ro 0 rfl))) ?_
 refine WL_alloc hC7 zero70 rfl rfl (fun b3 w3 hC8 hB3 => ?_)
 refine WL_store_box_agg (cs' := [(.int .i64 0), (.slice (some ⟨b2, 0, none⟩) 1 1)]) (new := [(.int .i64 0), (.slice (some ⟨b2, 0, none⟩) 1 1)]) hC8 0 rfl rfl (by intro v hv; simp only [List.mem_cons, List.not_mem_nil, or_false] at hv; rcases hv with rfl | rfl; exact rfl; exact (ro_one (hC8.ro 1 rfl))) rfl Try.sizeOf70 rfl rfl (fun w4 hC9 => ?_)
 try dsimp only [List.set] at hC9
 refine WL_nil ?_
 refine W_seq ?_
 refine W_seq_reg ?_
 refine WL_move rfl rfl ?_
 obtain ⟨x1, hr1, hF⟩ := bind_some hF
 refine WL_call Try.call47 rfl rfl (c_S_IsSchema a2 u2 (g2.now hC9.keep) x1 hr1) ?_
 intro _ w5 hv1
 obtain ⟨rfl, hB4⟩ := res_bool hv1
 have hC10 := hC9.grow hB4
 refine WL_nil ?_
 obtain ⟨r1, hr2, hF⟩ := bind_some hF
 refine W_norm (fun l w => ∃ x2 : Int, ∃ v1 : Value, ∃ x3 : (List Int), ∃ x4 : Int, ∃ x5 : Int, (x2, x3, x4, x5) = r1 ∧ l = [(0, (ptr pb1 0)), (4, (ptr b1 0)), (5, (ptr b3 0))] ∧ Ctx Fs.flatten w0 w [Item.box b3 [(.int .i64 x2), v1], Item.own v1 (x3 : (List Int)), Item.box b1 [(.int .i64 0), (.slice none 0 0)], Item.box pb1 [u1, (.int .i64 x4), (.int .i64 x5)]]) ?_ ?_
 ·refine W_cond rfl (fun hc1 => ?_) (fun hc1 => ?_)
  ·replace hr2 := ite_t hr2 hc1
   refine W_reg ?_
   refine WL_move rfl rfl ?_
   refine WL_move rfl rfl ?_
   obtain ⟨x6, hr3, hr2⟩ := bind_some hr2
   have hC12 := hC10.f3
   obtain ⟨Fs1, hH1, hn1, hF1, hO1, hb1⟩ := Ctx.lend2 (As := [Item.box b3 [(.int .i64 0), (.slice (some ⟨b2, 0, none⟩) 1 1)], Item.own (.slice (some ⟨b2, 0, none⟩) 1 1) ([1] : (List Int)), Item.box b1 [(.int .i64 0), (.slice none 0 0)]]) [Item.box pb1 [u1, (.int .i64 a1.2.1), (.int .i64 a1.2.2)]] hC12
   refine WL_call Try.call51 rfl rfl (c_S_l2Fact pb1 (a1.1, a1.2.1, a1.2.2) u1 (RO.lent g1 hC12.keep hF1) a2 u2 (RO.lent g2 hC12.keep hF1) 10 hH1 hn1 x6 hr3) ?_
   rintro v2 w7 ⟨_, rfl, hq1⟩
   have hC13 : Ctx Fs.flatten w0 w7 [Item.own v2 (x6.1 : (Int × (List Int))), Item.box pb1 [u1, (.int .i64 x6.2.2.1), (.int .i64 x6.2.2.2)], Item.box b3 [(.int .i64 0), (.slice (some ⟨b2, 0, none⟩) 1 1)], Item.own (.slice (some ⟨b2, 0, none⟩) 1 1) ([1] : (List Int)), Item.box b1 [(.int .i64 0), (.slice none 0 0)]] := hb1 _ _ hq1
   obtain ⟨v3, rfl, hC14⟩ := st70_own hC13
   refine WL_store_box_agg (cs' := [(.int .i64 x6.1.1), v3]) (new := [(.int .i64 x6.1.1), v3]) hC14 2 rfl rfl (by intro v hv; simp only [List.mem_cons, List.not_mem_nil, or_false] at hv; rcases hv with rfl | rfl; exact rfl; exact (ro_one (hC14.ro 0 rfl))) rfl Try.sizeOf70 rfl rfl (fun w9 hC15 => ?_)
   try dsimp only [List.set] at hC15
   refine WL_nil ?_
   have hq2 := Option.some.inj hr2
   subst hq2
   have hC16 := hC15.f1
   have hC17 := hC16.f4
   have hC18 := hC17.f2
   have hC19 := hC18.f3
   have hC20 := hC19.h4
   refine nrm_sub (l' := [(0, (ptr pb1 0)), (4, (ptr b1 0)), (5, (ptr b3 0))]) ⟨rfl, rfl, rfl, trivial⟩ ?_
   exact ⟨x6.1.1, v3, x6.1.2, x6.2.2.1, x6.2.2.2, rfl, rfl, hC20⟩
  replace hr2 := ite_f hr2 hc1
  refine W_skip ?_
  have hq3 := Option.some.inj hr2
  subst hq3
  refine nrm_sub (l' := [(0, (ptr pb1 0)), (4, (ptr b1 0)), (5, (ptr b3 0))]) ⟨rfl, rfl, rfl, trivial⟩ ?_
  exact ⟨0, (.slice (some ⟨b2, 0, none⟩) 1 1), [1], a1.2.1, a1.2.2, rfl, rfl, hC10⟩
 rintro l1 _ w6 hs1 ⟨x2, v1, x3, x4, x5, rfl, rfl, hC11⟩
 try dsimp only at hF
 refine nrm_sub' hs1 ?_
 clear hs1
 refine W_seq ?_
 refine W_seq_reg ?_
 refine WL_move rfl rfl ?_
 obtain ⟨x7, hr4, hF⟩ := bind_some hF
 have hC21 := hC11.f3
 obtain ⟨Fs2, hH2, hn2, hF2, hO2, hb2⟩ := Ctx.lend2 (As := [Item.box b3 [(.int .i64 x2), v1], Item.own v1 (x3 : (List Int)), Item.box b1 [(.int .i64 0), (.slice none 0 0)]]) [Item.box pb1 [u1, (.int .i64 x4), (.int .i64 x5)]] hC21
 refine WL_call Try.call15 rfl rfl (c_S_l1Below pb1 (a1.1, x4, x5) u1 (RO.lent g1 hC21.keep hF2) 8 hH2 hn2 x7 hr4) ?_
 rintro _ w10 ⟨rfl, hq4⟩
 have hC22 : Ctx Fs.flatten w0 w10 [Item.box pb1 [u1, (.int .i64 x7.2.2.1), (.int .i64 x7.2.2.2)], Item.box b3 [(.int .i64 x2), v1], Item.own v1 (x3 : (List Int)), Item.box b1 [(.int .i64 0), (.slice none 0 0)]] := hb2 _ _ hq4
 refine WL_nil ?_
 refine W_block ?_
 refine W_seq_reg ?_
 refine WL_eql rfl rfl rfl ?_
 refine WL_assign rfl rfl ?_
 refine WL_nil ?_
 obtain ⟨r2, hr5, hF⟩ := bind_some hF
 refine W_norm (fun l w => ∃ x8 : Int, ∃ x9 : Int, ∃ x10 : Int, ∃ v4 : Value, ∃ x11 : (List Int), (x8, x9, x10, x11) = r2 ∧ l = [(4, (ptr b1 0)), (5, (ptr b3 0))] ∧ Ctx Fs.flatten w0 w [Item.box pb1 [u1, (.int .i64 x8), (.int .i64 x9)], Item.box b3 [(.int .i64 x10), v4], Item.own v4 (x11 : (List Int)), Item.box b1 [(.int .i64 0), (.slice none 0 0)]]) ?_ ?_
 ·refine W_cond rfl (fun hc2 => ?_) (fun hc2 => ?_)
  ·replace hr5 := ite_t hr5 hc2
   refine W_reg ?_
   refine WL_move rfl rfl ?_
   obtain ⟨x12, hr6, hr5⟩ := bind_some hr5
   obtain ⟨Fs3, hH3, hn3, hF3, hO3, hb3⟩ := Ctx.lend2 (As := [Item.box b3 [(.int .i64 x2), v1], Item.own v1 (x3 : (List Int)), Item.box b1 [(.int .i64 0), (.slice none 0 0)]]) [Item.box pb1 [u1, (.int .i64 x7.2.2.1), (.int .i64 x7.2.2.2)]] hC22
   refine WL_call Try.call15 rfl rfl (c_S_l1Below pb1 (a1.1, x7.2.2.1, x7.2.2.2) u1 (RO.lent g1 hC22.keep hF3) 5 hH3 hn3 x12 hr6) ?_
   rintro _ w12 ⟨rfl, hq5⟩
   have hC24 : Ctx Fs.flatten w0 w12 [Item.box pb1 [u1, (.int .i64 x12.2.2.1), (.int .i64 x12.2.2.2)], Item.box b3 [(.int .i64 x2), v1], Item.own v1 (x3 : (List Int)), Item.box b1 [(.int .i64 0), (.slice none 0 0)]] := hb3 _ _ hq5
   refine WL_sub rfl rfl rfl ?_
   refine WL_field Try.underlying70 rfl rfl (fun w => ⟨_, Try.sizeOf3 w⟩) rfl rfl ?_
   refine WL_store_box (cs' := [(.int .i64 (w64 (x12.1 - 1))), v1]) hC24 1 rfl rfl rfl rfl Try.sizeOf3 rfl rfl (fun w13 hC25 => ?_)
   try dsimp only [List.set] at hC25
   refine WL_nil ?_
   have hq6 := Option.some.inj hr5
   subst hq6
   refine nrm_sub (l' := [(4, (ptr b1 0)), (5, (ptr b3 0))]) ⟨rfl, rfl, trivial⟩ ?_
   exact ⟨x12.2.2.1, x12.2.2.2, w64 (x12.1 - 1), v1, x3, rfl, rfl, hC25⟩
  replace hr5 := ite_f hr5 hc2
  refine W_seq_reg ?_
  refine WL_eql rfl rfl rfl ?_
  refine WL_assign rfl rfl ?_
  refine WL_nil ?_
  obtain ⟨r3, hr7, hr5⟩ := bind_some hr5
  refine W_norm (fun l w => ∃ x13 : Int, ∃ x14 : Int, ∃ x15 : Int, ∃ v5 : Value, ∃ x16 : (List Int), (x13, x14, x15, x16) = r3 ∧ l = [(4, (ptr b1 0)), (5, (ptr b3 0))] ∧ Ctx Fs.flatten w0 w [Item.box pb1 [u1, (.int .i64 x13), (.int .i64 x14)], Item.box b3 [(.int .i64 x15), v5], Item.own v5 (x16 : (List Int)), Item.box b1 [(.int .i64 0), (.slice none 0 0)]]) ?_ ?_
  ·refine W_cond rfl (fun hc3 => ?_) (fun hc3 => ?_)
   ·replace hr7 := ite_t hr7 hc3
    obtain ⟨r4, hr8, hr7⟩ := bind_some hr7
    refine W_norm (fun l w => ∃ x17 : (List Int), ∃ x18 : Int, ∃ x19 : Int, (x17, x18, x19) = r4 ∧ l = [(4, (ptr b1 0)), (5, (ptr b3 0))] ∧ Ctx Fs.flatten w0 w [Item.box pb1 [u1, (.int .i64 x18), (.int .i64 x19)], Item.box b3 [(.int .i64 x2), v1], Item.own v1 (x17 : (List Int)), Item.box b1 [(.int .i64 0), (.slice none 0 0)]]) ?_ ?_
    ·refine W_drawn 7 rfl hmix (fun w16 hB9 => ?_)
     have hC28 := hC22.grow hB9
     refine WA_tk 0 (by kernel_rfl) rfl rfl (fl_field Try.underlying70 rfl rfl (fun w => ⟨_, Try.sizeOf35 w⟩) rfl) ?_
     refine WL_field Try.underlying70 rfl rfl (fun w => ⟨_, Try.sizeOf35 w⟩) rfl rfl ?_
     refine WL_nil ?_
     refine WA_tk 2 (by kernel_rfl) rfl rfl (fl_move rfl) ?_
     refine WL_move rfl rfl ?_
     refine WL_nil ?_
     refine WA_all2 (i := 1) (j := 3) (by kernel_rfl) rfl rfl ?_ ?_
     ·refine WL_load_box hC28 1 rfl rfl Try.isAgg35 rfl rfl ?_
      refine WL_nil ?_
      refine WA_one 3 (by kernel_rfl) rfl ?_
      refine WL_buildSlice (vs := [(.int .i64 (-1)), (.int .i64 9), (.int .i64 10)]) hC28 Try.underlying35 ty3 rfl rfl rfl rfl (by intro v hv; simp only [List.mem_cons, List.not_mem_nil, or_false] at hv; rcases hv with rfl | rfl | rfl <;> rfl) rfl rfl (fun b4 w17 hC29 hB10 => ?_)
      have hC30 := hC29.row0 (α := Int)
      have hC31 := hC30.triv (int_val (10))
      have hC32 := hC31.row1
      have hC33 := hC32.triv (int_val (9))
      have hC34 := hC33.row1
      have hC35 := hC34.triv (int_val ((-1)))
      have hC36 := hC35.row1
      have hC37 := hC36.front 1 rfl
      dsimp only [List.eraseIdx, List.cons_append, List.nil_append, List.append_nil] at hC37
      have hC38 : Ctx Fs.flatten w0 w17 (Item.own (.slice (some ⟨b4, 0, none⟩) 3 3) ([(-1), 9, 10] : List Int) :: [Item.box pb1 [u1, (.int .i64 x7.2.2.1), (.int .i64 x7.2.2.2)], Item.box b3 [(.int .i64 x2), v1], Item.own v1 (x3 : (List Int)), Item.box b1 [(.int .i64 0), (.slice none 0 0)]]) := hC37.rowOwn (by simp [maxLen])
      refine WL_nil ?_
      obtain ⟨x20, hr9, hr8⟩ := bind_some hr8
      refine WA_one 4 (by kernel_rfl) rfl ?_
      have hC39 := hC38.f1
      obtain ⟨Fs4, hH4, hn4, hF4, hO4, hb4⟩ := Ctx.lend2 (As := [Item.own (.slice (some ⟨b4, 0, none⟩) 3 3) ([(-1), 9, 10] : (List Int)), Item.box b3 [(.int .i64 x2), v1], Item.own v1 (x3 : (List Int)), Item.box b1 [(.int .i64 0), (.slice none 0 0)]]) [Item.box pb1 [u1, (.int .i64 x7.2.2.1), (.int .i64 x7.2.2.2)]] hC39
      refine WL_call Try.call45 rfl rfl (c_S_l1PickInt pb1 (a1.1, x7.2.2.1, x7.2.2.2) u1 (RO.lent g1 hC39.keep hF4) ([(-1), 9, 10]) (.slice (some ⟨b4, 0, none⟩) 3 3) (hO4 0 _ _ _ rfl) hH4 hn4 x20 hr9) ?_
      rintro _ w18 ⟨rfl, hq7⟩
      have hC40 : Ctx Fs.flatten w0 w18 [Item.box pb1 [u1, (.int .i64 x20.2.2.1), (.int .i64 x20.2.2.2)], Item.own (.slice (some ⟨b4, 0, none⟩) 3 3) ([(-1), 9, 10] : (List Int)), Item.box b3 [(.int .i64 x2), v1], Item.own v1 (x3 : (List Int)), Item.box b1 [(.int .i64 0), (.slice none 0 0)]] := hb4 _ _ hq7
      refine WL_nil ?_
      obtain ⟨x21, hx1, hr8⟩ := bind_some hr8
      refine WA_tk 5 (by kernel_rfl) rfl rfl (fl_index_own hC40 3 rfl Try.underlying35 ty3 hx1 rfl rfl) ?_
      refine WL_index_own hC40 3 rfl Try.underlying35 ty3 hx1 rfl rfl rfl (fun b5 hE1 => ?_)
      refine WL_nil ?_
      refine WA_one 6 (by kernel_rfl) rfl ?_
      have hC42 := hC40.triv (int_val (x20.1))
      refine WL_store_elem hC42 3 rfl ty3 hE1 hx1 rfl rfl rfl (fun w19 hC41 => ?_)
      try dsimp only [List.set] at hC41
      refine WL_nil ?_
      refine WA_done (by kernel_rfl) ?_
      have hq8 := Option.some.inj hr8
      subst hq8
      have hC43 := hC41.f4
      have hC44 := hC43.f4
      have hC45 := hC44.f4
      have hC46 := hC45.f3
      have hC47 := hC46.h4
      refine nrm_sub (l' := [(4, (ptr b1 0)), (5, (ptr b3 0))]) ⟨rfl, rfl, trivial⟩ ?_
      exact ⟨(List.set x3 (Int.toNat 0) x20.1), x20.2.2.1, x20.2.2.2, rfl, rfl, hC47⟩
     refine WL_buildSlice (vs := [(.int .i64 (-1)), (.int .i64 9), (.int .i64 10)]) hC28 Try.underlying35 ty3 rfl rfl rfl rfl (by intro v hv; simp only [List.mem_cons, List.not_mem_nil, or_false] at hv; rcases hv with rfl | rfl | rfl <;> rfl) rfl rfl (fun b4 w17 hC29 hB10 => ?_)
     have hC30 := hC29.row0 (α := Int)
     have hC31 := hC30.triv (int_val (10))
     have hC32 := hC31.row1
     have hC33 := hC32.triv (int_val (9))
     have hC34 := hC33.row1
     have hC35 := hC34.triv (int_val ((-1)))
     have hC36 := hC35.row1
     have hC37 := hC36.front 1 rfl
     dsimp only [List.eraseIdx, List.cons_append, List.nil_append, List.append_nil] at hC37
     have hC38 : Ctx Fs.flatten w0 w17 (Item.own (.slice (some ⟨b4, 0, none⟩) 3 3) ([(-1), 9, 10] : List Int) :: [Item.box pb1 [u1, (.int .i64 x7.2.2.1), (.int .i64 x7.2.2.2)], Item.box b3 [(.int .i64 x2), v1], Item.own v1 (x3 : (List Int)), Item.box b1 [(.int .i64 0), (.slice none 0 0)]]) := hC37.rowOwn (by simp [maxLen])
     refine WL_nil ?_
     refine WA_all2 (i := 1) (j := 4) (by kernel_rfl) rfl rfl ?_ ?_
     ·refine WL_load_box hC38 2 rfl rfl Try.isAgg35 rfl rfl ?_
      refine WL_nil ?_
      obtain ⟨x20, hr9, hr8⟩ := bind_some hr8
      refine WA_one 4 (by kernel_rfl) rfl ?_
      have hC39 := hC38.f1
      obtain ⟨Fs4, hH4, hn4, hF4, hO4, hb4⟩ := Ctx.lend2 (As := [Item.own (.slice (some ⟨b4, 0, none⟩) 3 3) ([(-1), 9, 10] : (List Int)), Item.box b3 [(.int .i64 x2), v1], Item.own v1 (x3 : (List Int)), Item.box b1 [(.int .i64 0), (.slice none 0 0)]]) [Item.box pb1 [u1, (.int .i64 x7.2.2.1), (.int .i64 x7.2.2.2)]] hC39
      refine WL_call Try.call45 rfl rfl (c_S_l1PickInt pb1 (a1.1, x7.2.2.1, x7.2.2.2) u1 (RO.lent g1 hC39.keep hF4) ([(-1), 9, 10]) (.slice (some ⟨b4, 0, none⟩) 3 3) (hO4 0 _ _ _ rfl) hH4 hn4 x20 hr9) ?_
      rintro _ w18 ⟨rfl, hq7⟩
      have hC40 : Ctx Fs.flatten w0 w18 [Item.box pb1 [u1, (.int .i64 x20.2.2.1), (.int .i64 x20.2.2.2)], Item.own (.slice (some ⟨b4, 0, none⟩) 3 3) ([(-1), 9, 10] : (List Int)), Item.box b3 [(.int .i64 x2), v1], Item.own v1 (x3 : (List Int)), Item.box b1 [(.int .i64 0), (.slice none 0 0)]] := hb4 _ _ hq7
      refine WL_nil ?_
      obtain ⟨x21, hx1, hr8⟩ := bind_some hr8
      refine WA_tk 5 (by kernel_rfl) rfl rfl (fl_index_own hC40 3 rfl Try.underlying35 ty3 hx1 rfl rfl) ?_
      refine WL_index_own hC40 3 rfl Try.underlying35 ty3 hx1 rfl rfl rfl (fun b5 hE1 => ?_)
      refine WL_nil ?_
      refine WA_one 6 (by kernel_rfl) rfl ?_
      have hC42 := hC40.triv (int_val (x20.1))
      refine WL_store_elem hC42 3 rfl ty3 hE1 hx1 rfl rfl rfl (fun w19 hC41 => ?_)
      try dsimp only [List.set] at hC41
      refine WL_nil ?_
      refine WA_done (by kernel_rfl) ?_
      have hq8 := Option.some.inj hr8
      subst hq8
      have hC43 := hC41.f4
      have hC44 := hC43.f4
      have hC45 := hC44.f4
      have hC46 := hC45.f3
      have hC47 := hC46.h4
      refine nrm_sub (l' := [(4, (ptr b1 0)), (5, (ptr b3 0))]) ⟨rfl, rfl, trivial⟩ ?_
      exact ⟨(List.set x3 (Int.toNat 0) x20.1), x20.2.2.1, x20.2.2.2, rfl, rfl, hC47⟩
     obtain ⟨x20, hr9, hr8⟩ := bind_some hr8
     have hC39 := hC38.f1
     obtain ⟨Fs4, hH4, hn4, hF4, hO4, hb4⟩ := Ctx.lend2 (As := [Item.own (.slice (some ⟨b4, 0, none⟩) 3 3) ([(-1), 9, 10] : (List Int)), Item.box b3 [(.int .i64 x2), v1], Item.own v1 (x3 : (List Int)), Item.box b1 [(.int .i64 0), (.slice none 0 0)]]) [Item.box pb1 [u1, (.int .i64 x7.2.2.1), (.int .i64 x7.2.2.2)]] hC39
     refine WL_call Try.call45 rfl rfl (c_S_l1PickInt pb1 (a1.1, x7.2.2.1, x7.2.2.2) u1 (RO.lent g1 hC39.keep hF4) ([(-1), 9, 10]) (.slice (some ⟨b4, 0, none⟩) 3 3) (hO4 0 _ _ _ rfl) hH4 hn4 x20 hr9) ?_
     rintro _ w18 ⟨rfl, hq7⟩
     have hC40 : Ctx Fs.flatten w0 w18 [Item.box pb1 [u1, (.int .i64 x20.2.2.1), (.int .i64 x20.2.2.2)], Item.own (.slice (some ⟨b4, 0, none⟩) 3 3) ([(-1), 9, 10] : (List Int)), Item.box b3 [(.int .i64 x2), v1], Item.own v1 (x3 : (List Int)), Item.box b1 [(.int .i64 0), (.slice none 0 0)]] := hb4 _ _ hq7
     refine WL_nil ?_
     refine WA_one 1 (by kernel_rfl) rfl ?_
     refine WL_load_box hC40 2 rfl rfl Try.isAgg35 rfl rfl ?_
     refine WL_nil ?_
     obtain ⟨x21, hx1, hr8⟩ := bind_some hr8
     refine WA_tk 5 (by kernel_rfl) rfl rfl (fl_index_own hC40 3 rfl Try.underlying35 ty3 hx1 rfl rfl) ?_
     refine WL_index_own hC40 3 rfl Try.underlying35 ty3 hx1 rfl rfl rfl (fun b5 hE1 => ?_)
     refine WL_nil ?_
     refine WA_one 6 (by kernel_rfl) rfl ?_
     have hC42 := hC40.triv (int_val (x20.1))
     refine WL_store_elem hC42 3 rfl ty3 hE1 hx1 rfl rfl rfl (fun w19 hC41 => ?_)
     try dsimp only [List.set] at hC41
     refine WL_nil ?_
     refine WA_done (by kernel_rfl) ?_
     have hq8 := Option.some.inj hr8
     subst hq8
     have hC43 := hC41.f4
     have hC44 := hC43.f4
     have hC45 := hC44.f4
     have hC46 := hC45.f3
     have hC47 := hC46.h4
     refine nrm_sub (l' := [(4, (ptr b1 0)), (5, (ptr b3 0))]) ⟨rfl, rfl, trivial⟩ ?_
     exact ⟨(List.set x3 (Int.toNat 0) x20.1), x20.2.2.1, x20.2.2.2, rfl, rfl, hC47⟩
    rintro l4 _ w15 hs4 ⟨x17, x18, x19, rfl, rfl, hC27⟩
    try dsimp only at hr7
    have hq9 := Option.some.inj hr7
    subst hq9
    refine nrm_subs (l2 := [(4, (ptr b1 0)), (5, (ptr b3 0))]) hs4 ⟨rfl, rfl, trivial⟩ ?_
    exact ⟨x18, x19, x2, v1, x17, rfl, rfl, hC27⟩
   replace hr7 := ite_f hr7 hc3
   refine W_seq_reg ?_
   refine WL_eql rfl rfl rfl ?_
   refine WL_assign rfl rfl ?_
   refine WL_nil ?_
   obtain ⟨r5, hr10, hr7⟩ := bind_some hr7
   refine W_norm (fun l w => ∃ x22 : Int, ∃ v6 : Value, ∃ x23 : (List Int), (x22, x23) = r5 ∧ l = [(4, (ptr b1 0)), (5, (ptr b3 0))] ∧ Ctx Fs.flatten w0 w [Item.box pb1 [u1, (.int .i64 x7.2.2.1), (.int .i64 x7.2.2.2)], Item.box b3 [(.int .i64 x22), v6], Item.own v6 (x23 : (List Int)), Item.box b1 [(.int .i64 0), (.slice none 0 0)]]) ?_ ?_
   ·refine W_cond rfl (fun hc4 => ?_) (fun hc4 => ?_)
    ·replace hr10 := ite_t hr10 hc4
     refine W_reg ?_
     refine WL_field Try.underlying70 rfl rfl (fun w => ⟨_, Try.sizeOf35 w⟩) rfl rfl ?_
     refine WL_load_box hC22 1 rfl rfl Try.isAgg35 rfl rfl ?_
     refine WL_buildSlice (vs := [(.int .i64 1)]) hC22 Try.underlying35 ty3 rfl rfl rfl rfl (by intro v hv; simp only [List.mem_cons, List.not_mem_nil, or_false] at hv; rcases hv with rfl <;> rfl) rfl rfl (fun b6 w21 hC49 hB12 => ?_)
     have hC50 := hC49.row0 (α := Int)
     have hC51 := hC50.triv (int_val (1))
     have hC52 := hC51.row1
     have hC53 := hC52.front 1 rfl
     dsimp only [List.eraseIdx, List.cons_append, List.nil_append, List.append_nil] at hC53
     have hC54 : Ctx Fs.flatten w0 w21 (Item.own (.slice (some ⟨b6, 0, none⟩) 1 1) ([1] : List Int) :: [Item.box pb1 [u1, (.int .i64 x7.2.2.1), (.int .i64 x7.2.2.2)], Item.box b3 [(.int .i64 x2), v1], Item.own v1 (x3 : (List Int)), Item.box b1 [(.int .i64 0), (.slice none 0 0)]]) := hC53.rowOwn (by simp [maxLen])
     obtain ⟨x24, hx2, hr10⟩ := bind_some hr10
     refine WL_append_flat (α := Int) hC54 3 rfl (hC54.ro 0 rfl) (Keep.refl _ _) Try.underlying35 ty3 rfl hx2 rfl rfl rfl (fun v7 w22 hC55 => ?_)
     try dsimp only [List.set] at hC55
     refine WL_field Try.underlying70 rfl rfl (fun w => ⟨_, Try.sizeOf35 w⟩) rfl rfl ?_
     refine WL_store_box (cs' := [(.int .i64 x2), v7]) hC55 2 rfl rfl (ro_one (hC55.ro 3 rfl)) rfl Try.sizeOf35 rfl rfl (fun w23 hC56 => ?_)
     try dsimp only [List.set] at hC56
     refine WL_nil ?_
     have hq10 := Option.some.inj hr10
     subst hq10
     have hC57 := hC56.f4
     have hC58 := hC57.f4
     have hC59 := hC58.f4
     have hC60 := hC59.f4
     have hC61 := hC60.h4
     refine nrm_sub (l' := [(4, (ptr b1 0)), (5, (ptr b3 0))]) ⟨rfl, rfl, trivial⟩ ?_
     exact ⟨x2, v7, x24, rfl, rfl, hC61⟩
    replace hr10 := ite_f hr10 hc4
    refine W_skip ?_
    have hq11 := Option.some.inj hr10
    subst hq11
    refine nrm_sub (l' := [(4, (ptr b1 0)), (5, (ptr b3 0))]) ⟨rfl, rfl, trivial⟩ ?_
    exact ⟨x2, v1, x3, rfl, rfl, hC22⟩
   rintro l5 _ w20 hs5 ⟨x22, v6, x23, rfl, rfl, hC48⟩
   try dsimp only at hr7
   have hq12 := Option.some.inj hr7
   subst hq12
   refine nrm_subs (l2 := [(4, (ptr b1 0)), (5, (ptr b3 0))]) hs5 ⟨rfl, rfl, trivial⟩ ?_
   exact ⟨x7.2.2.1, x7.2.2.2, x22, v6, x23, rfl, rfl, hC48⟩
  rintro l3 _ w14 hs3 ⟨x13, x14, x15, v5, x16, rfl, rfl, hC26⟩
  try dsimp only at hr5
  have hq13 := Option.some.inj hr5
  subst hq13
  refine nrm_subs (l2 := [(4, (ptr b1 0)), (5, (ptr b3 0))]) hs3 ⟨rfl, rfl, trivial⟩ ?_
  exact ⟨x13, x14, x15, v5, x16, rfl, rfl, hC26⟩
 rintro l2 _ w11 hs2 ⟨x8, x9, x10, v4, x11, rfl, rfl, hC23⟩
 try dsimp only at hF
 refine blk_normal ?_
 refine nrm_sub' hs2 ?_
 clear hs2
 refine W_seq_reg ?_
 refine WL_load_box_agg [(.int .i64 x10), v4] hC23 1 rfl rfl rfl Try.isAgg70 Try.sizeOf70 rfl rfl ?_
 refine WL_store_box_agg (cs' := [(.int .i64 x10), v4]) (new := [(.int .i64 x10), v4]) hC23 3 rfl rfl (by intro v hv; simp only [List.mem_cons, List.not_mem_nil, or_false] at hv; rcases hv with rfl | rfl; exact rfl; exact (ro_one (hC23.ro 2 rfl))) rfl Try.sizeOf70 rfl rfl (fun w24 hC62 => ?_)
 try dsimp only [List.set] at hC62
 refine WL_nil ?_
 refine W_ret ?_
 have hq14 := Option.some.inj hF
 subst hq14
 refine fn_retG1 rfl (rv_cell_agg (cs' := [(.int .i64 x10), v4]) hC62 (i := 3) rfl rfl rfl Try.isAgg70 Try.sizeOf70 rfl) ?_
 have hC64 := hC62.f2
 have hC63 := own_st70 x10 v4 x11 hC64
 have hC65 := hC63.h2
 exact ⟨_, rfl, _, rfl, hC65⟩

theorem c_S_l2AnyFacts {w0 : World} {Fs : List (List Nat)} (pb1 : Nat) (a1 : ((List UInt8) × Int × Int)) (u1 : Value) (g1 : RO Fs.flatten w0 u1 a1.1) (a2 : (List Int)) (u2 : Value) (g2 : RO Fs.flatten w0 u2 a2) (hH : Hold [Item.box pb1 [u1, (.int .i64 a1.2.1), (.int .i64 a1.2.2)]] w0 Fs) (hn : Fs.flatten.Nodup) (rr : ((List (Int × (List Int))) × ((List UInt8) × Int × Int))) (hF : S.l2AnyFacts a1 a2 = some rr) :
 Calls Try.prog 35 [(ptr pb1 0), u2].toArray w0 fun e w' => ∃ v, e = .returned v ∧ ∃ q0 : Value, v = q0 ∧ Ctx Fs.flatten w0 w' [Item.own q0 (rr.1 : (List (Int × (List Int)))), Item.box pb1 [u1, (.int .i64 rr.2.2.1), (.int .i64 rr.2.2.2)]] := by
 refine calls_of_W Try.func35 rfl rfl ?_
 have hC0 := Ctx.startIn hH hn
 unfold S.l2AnyFacts at hF
 refine W_seq_reg ?_
 refine WL_assign rfl rfl ?_
 refine WL_nil ?_
 refine W_seq_reg ?_
 refine WL_buildSlice (vs := []) hC0 Try.underlying51 ty70 rfl rfl rfl rfl (by simp) rfl rfl (fun b1 w1 hC1 hB1 => ?_)
 have hC2 := hC1.row0 (α := (Int × (List Int)))
 have hC3 := hC2.front 1 rfl
 dsimp only [List.eraseIdx, List.cons_append, List.nil_append, List.append_nil] at hC3
 have hC4 : Ctx Fs.flatten w0 w1 (Item.own (.slice (some ⟨b1, 0, none⟩) 0 0) (([] : List (Int × (List Int))) : List (Int × (List Int))) :: [Item.box pb1 [u1, (.int .i64 a1.2.1), (.int .i64 a1.2.2)]]) := hC3.rowOwn (by simp [maxLen])
 refine WL_assign rfl rfl ?_
 refine WL_nil ?_
 refine W_seq ?_
 refine W_seq_reg ?_
 refine WL_move rfl rfl ?_
 obtain ⟨x1, hr1, hF⟩ := bind_some hF
 refine WL_call Try.call47 rfl rfl (c_S_IsSchema a2 u2 (g2.now hC4.keep) x1 hr1) ?_
 intro _ w2 hv1
 obtain ⟨rfl, hB2⟩ := res_bool hv1
 have hC5 := hC4.grow hB2
 refine WL_nil ?_
 obtain ⟨r1, hr2, hF⟩ := bind_some hF
 refine W_norm (fun l w => ∃ x2 : Int, ∃ x3 : Int, ∃ v1 : Value, ∃ x4 : (List (Int × (List Int))), (x2, x3, x4) = r1 ∧ l = [(0, (ptr pb1 0)), (1, u2), (5, v1)] ∧ Ctx Fs.flatten w0 w [Item.own v1 (x4 : (List (Int × (List Int)))), Item.box pb1 [u1, (.int .i64 x2), (.int .i64 x3)]]) ?_ ?_
 ·refine W_cond rfl (fun hc1 => ?_) (fun hc1 => ?_)
  ·replace hr2 := ite_t hr2 hc1
   refine W_reg ?_
   refine WL_move rfl rfl ?_
   refine WL_move rfl rfl ?_
   obtain ⟨x5, hr3, hr2⟩ := bind_some hr2
   have hC7 := hC5.f1
   obtain ⟨Fs1, hH1, hn1, hF1, hO1, hb1⟩ := Ctx.lend2 (As := [Item.own (.slice (some ⟨b1, 0, none⟩) 0 0) (([] : List (Int × (List Int))) : (List (Int × (List Int))))]) [Item.box pb1 [u1, (.int .i64 a1.2.1), (.int .i64 a1.2.2)]] hC7
   refine WL_call Try.call41 rfl rfl (c_S_l2Facts pb1 (a1.1, a1.2.1, a1.2.2) u1 (RO.lent g1 hC7.keep hF1) a2 u2 (RO.lent g2 hC7.keep hF1) 8 hH1 hn1 x5 hr3) ?_
   rintro v2 w4 ⟨_, rfl, hq1⟩
   have hC8 : Ctx Fs.flatten w0 w4 [Item.own v2 (x5.1 : (List (Int × (List Int)))), Item.box pb1 [u1, (.int .i64 x5.2.2.1), (.int .i64 x5.2.2.2)], Item.own (.slice (some ⟨b1, 0, none⟩) 0 0) (([] : List (Int × (List Int))) : (List (Int × (List Int))))] := hb1 _ _ hq1
   refine WL_assign rfl rfl ?_
   refine WL_nil ?_
   have hq2 := Option.some.inj hr2
   subst hq2
   have hC9 := hC8.f1
   have hC10 := hC9.f1
   have hC11 := hC10.h2
   refine nrm_sub (l' := [(0, (ptr pb1 0)), (1, u2), (5, v2)]) ⟨rfl, rfl, rfl, trivial⟩ ?_
   exact ⟨x5.2.2.1, x5.2.2.2, v2, x5.1, rfl, rfl, hC11⟩
  replace hr2 := ite_f hr2 hc1
  refine W_skip ?_
  have hq3 := Option.some.inj hr2
  subst hq3
  refine nrm_sub (l' := [(0, (ptr pb1 0)), (1, u2), (5, (.slice (some ⟨b1, 0, none⟩) 0 0))]) ⟨rfl, rfl, rfl, trivial⟩ ?_
  exact ⟨a1.2.1, a1.2.2, (.slice (some ⟨b1, 0, none⟩) 0 0), ([] : List (Int × (List Int))), rfl, rfl, hC5⟩
 rintro l1 _ w3 hs1 ⟨x2, x3, v1, x4, rfl, rfl, hC6⟩
 try dsimp only at hF
 refine nrm_sub' hs1 ?_
 clear hs1
 refine W_seq ?_
 refine W_seq_reg ?_
 refine WL_move rfl rfl ?_
 obtain ⟨x6, hr4, hF⟩ := bind_some hF
 have hC12 := hC6.f1
 obtain ⟨Fs2, hH2, hn2, hF2, hO2, hb2⟩ := Ctx.lend2 (As := [Item.own v1 (x4 : (List (Int × (List Int))))]) [Item.box pb1 [u1, (.int .i64 x2), (.int .i64 x3)]] hC12
 refine WL_call Try.call36 rfl rfl (c_S_l1Once pb1 (a1.1, x2, x3) u1 (RO.lent g1 hC12.keep hF2) 10 hH2 hn2 x6 hr4) ?_
 rintro _ w5 ⟨rfl, hq4⟩
 have hC13 : Ctx Fs.flatten w0 w5 [Item.box pb1 [u1, (.int .i64 x6.2.2.1), (.int .i64 x6.2.2.2)], Item.own v1 (x4 : (List (Int × (List Int))))] := hb2 _ _ hq4
 refine WL_nil ?_
 obtain ⟨r2, hr5, hF⟩ := bind_some hF
 refine W_norm (fun l w => ∃ x7 : Int, ∃ x8 : Int, ∃ v3 : Value, ∃ x9 : (List (Int × (List Int))), (x7, x8, x9) = r2 ∧ l = [(5, v3)] ∧ Ctx Fs.flatten w0 w [Item.box pb1 [u1, (.int .i64 x7), (.int .i64 x8)], Item.own v3 (x9 : (List (Int × (List Int))))]) ?_ ?_
 ·refine W_cond rfl (fun hc2 => ?_) (fun hc2 => ?_)
  ·replace hr5 := ite_t hr5 hc2
   refine W_reg ?_
   refine WL_move rfl rfl ?_
   refine WL_move rfl rfl ?_
   refine WL_move rfl rfl ?_
   obtain ⟨x10, hr6, hr5⟩ := bind_some hr5
   obtain ⟨Fs3, hH3, hn3, hF3, hO3, hb3⟩ := Ctx.lend2 (As := [Item.own v1 (x4 : (List (Int × (List Int))))]) [Item.box pb1 [u1, (.int .i64 x6.2.2.1), (.int .i64 x6.2.2.2)]] hC13
   refine WL_call Try.call48 rfl rfl (c_S_l2AnyFact pb1 (a1.1, x6.2.2.1, x6.2.2.2) u1 (RO.lent g1 hC13.keep hF3) a2 u2 (RO.lent g2 hC13.keep hF3) hH3 hn3 x10 hr6) ?_
   rintro v4 w7 ⟨_, rfl, hq5⟩
   have hC15 : Ctx Fs.flatten w0 w7 [Item.own v4 (x10.1 : (Int × (List Int))), Item.box pb1 [u1, (.int .i64 x10.2.2.1), (.int .i64 x10.2.2.2)], Item.own v1 (x4 : (List (Int × (List Int))))] := hb3 _ _ hq5
   obtain ⟨v5, rfl, hC16⟩ := st70_own hC15
   refine WL_buildSlice (vs := [(.agg #[(.int .i64 x10.1.1), v5])]) hC16 Try.underlying51 ty70 rfl rfl rfl rfl (by intro v hv; simp only [List.mem_cons, List.not_mem_nil, or_false] at hv; rcases hv with rfl <;> rfl) rfl rfl (fun b2 w9 hC17 hB5 => ?_)
   have hC18 := hC17.row0 (α := (Int × (List Int)))
   have hC20 := hC18.f2
   have hC19 := own_st70 x10.1.1 v5 x10.1.2 hC20
   have hC21 := hC19.row1
   have hC22 := hC21.front 1 rfl
   dsimp only [List.eraseIdx, List.cons_append, List.nil_append, List.append_nil] at hC22
   have hC23 : Ctx Fs.flatten w0 w9 (Item.own (.slice (some ⟨b2, 0, none⟩) 1 1) ([(x10.1.1, x10.1.2)] : List (Int × (List Int))) :: [Item.box pb1 [u1, (.int .i64 x10.2.2.1), (.int .i64 x10.2.2.2)], Item.own v1 (x4 : (List (Int × (List Int))))]) := hC22.rowOwn (by simp [maxLen])
   obtain ⟨x11, hx1, hr5⟩ := bind_some hr5
   refine WL_append_head hC23 1 rfl Try.underlying51 ty70 rfl hx1 rfl rfl rfl (fun v6 w10 hC24 => ?_)
   try dsimp only [List.set] at hC24
   refine WL_assign rfl rfl ?_
   refine WL_nil ?_
   have hq6 := Option.some.inj hr5
   subst hq6
   refine nrm_sub (l' := [(5, v6)]) ⟨rfl, trivial⟩ ?_
   exact ⟨x10.2.2.1, x10.2.2.2, v6, x11, rfl, rfl, hC24⟩
  replace hr5 := ite_f hr5 hc2
  refine W_skip ?_
  have hq7 := Option.some.inj hr5
  subst hq7
  refine nrm_sub (l' := [(5, v1)]) ⟨rfl, trivial⟩ ?_
  exact ⟨x6.2.2.1, x6.2.2.2, v1, x4, rfl, rfl, hC13⟩
 rintro l2 _ w6 hs2 ⟨x7, x8, v3, x9, rfl, rfl, hC14⟩
 try dsimp only at hF
 refine nrm_sub' hs2 ?_
 clear hs2
 refine W_seq_reg ?_
 refine WL_move rfl rfl ?_
 refine WL_assign rfl rfl ?_
 refine WL_nil ?_
 refine W_ret ?_
 have hq8 := Option.some.inj hF
 subst hq8
 refine fn_ret1 rfl rfl ?_
 have hC26 := hC14.f1
 exact ⟨_, rfl, _, rfl, hC26⟩

theorem c_S_l5Method {w0 : World} {Fs : List (List Nat)} (pb1 : Nat) (a1 : ((List UInt8) × Int × Int)) (u1 : Value) (g1 : RO Fs.flatten w0 u1 a1.1) (a2 : (List Int)) (u2 : Value) (g2 : RO Fs.flatten w0 u2 a2) (hH : Hold [Item.box pb1 [u1, (.int .i64 a1.2.1), (.int .i64 a1.2.2)]] w0 Fs) (hn : Fs.flatten.Nodup) (rr : ((Int × (List Int) × Int × Int × Int) × ((List UInt8) × Int × Int))) (hF : S.l5Method a1 a2 = some rr) :
 Calls Try.prog 49 [(ptr pb1 0), u2].toArray w0 fun e w' => ∃ v, e = .returned v ∧ ∃ q0 : Value, v = q0 ∧ Ctx Fs.flatten w0 w' [Item.own q0 (rr.1 : (Int × (List Int) × Int × Int × Int)), Item.box pb1 [u1, (.int .i64 rr.2.2.1), (.int .i64 rr.2.2.2)]] := by
 refine calls_of_W Try.func49 rfl rfl ?_
 have hC0 := Ctx.startIn hH hn
 unfold S.l5Method at hF
 refine W_seq_reg ?_
 refine WL_alloc hC0 zero65 rfl rfl (fun b1 w1 hC1 hB1 => ?_)
 refine WL_nil ?_
 refine W_seq_reg ?_
 refine WL_move rfl rfl ?_
 refine WL_move rfl rfl ?_
 refine WL_len Try.underlying35 g2 rfl rfl ?_
 obtain ⟨x1, hr1, hF⟩ := bind_some hF
 have hC2 := hC1.f1
 obtain ⟨Fs1, hH1, hn1, hF1, hO1, hb1⟩ := Ctx.lend2 (As := [Item.box b1 [(.int .i64 0), (.slice none 0 0), (.int .i64 0), (.int .i64 0), (.int .i64 0)]]) [Item.box pb1 [u1, (.int .i64 a1.2.1), (.int .i64 a1.2.2)]] hC2
 refine WL_call Try.call15 rfl rfl (c_S_l1Below pb1 (a1.1, a1.2.1, a1.2.2) u1 (RO.lent g1 hC2.keep hF1) (List.length a2 : Int) hH1 hn1 x1 hr1) ?_
 rintro _ w2 ⟨rfl, hq1⟩
 have hC3 : Ctx Fs.flatten w0 w2 [Item.box pb1 [u1, (.int .i64 x1.2.2.1), (.int .i64 x1.2.2.2)], Item.box b1 [(.int .i64 0), (.slice none 0 0), (.int .i64 0), (.int .i64 0), (.int .i64 0)]] := hb1 _ _ hq1
 refine WL_move rfl rfl ?_
 refine WL_buildSlice (vs := [(.int .i64 0), (.int .i64 0), (.int .i64 0), (.int .i64 1), (.int .i64 2)]) hC3 Try.underlying35 ty3 rfl rfl rfl rfl (by intro v hv; simp only [List.mem_cons, List.not_mem_nil, or_false] at hv; rcases hv with rfl | rfl | rfl | rfl | rfl <;> rfl) rfl rfl (fun b2 w3 hC4 hB2 => ?_)
 have hC5 := hC4.row0 (α := Int)
 have hC6 := hC5.triv (int_val (2))
 have hC7 := hC6.row1
 have hC8 := hC7.triv (int_val (1))
 have hC9 := hC8.row1
 have hC10 := hC9.triv (int_val (0))
 have hC11 := hC10.row1
 have hC12 := hC11.triv (int_val (0))
 have hC13 := hC12.row1
 have hC14 := hC13.triv (int_val (0))
 have hC15 := hC14.row1
 have hC16 := hC15.front 1 rfl
 dsimp only [List.eraseIdx, List.cons_append, List.nil_append, List.append_nil] at hC16
 have hC17 : Ctx Fs.flatten w0 w3 (Item.own (.slice (some ⟨b2, 0, none⟩) 5 5) ([0, 0, 0, 1, 2] : List Int) :: [Item.box pb1 [u1, (.int .i64 x1.2.2.1), (.int .i64 x1.2.2.2)], Item.box b1 [(.int .i64 0), (.slice none 0 0), (.int .i64 0), (.int .i64 0), (.int .i64 0)]]) := hC16.rowOwn (by simp [maxLen])
 obtain ⟨x2, hr2, hF⟩ := bind_some hF
 have hC18 := hC17.f1
 obtain ⟨Fs2, hH2, hn2, hF2, hO2, hb2⟩ := Ctx.lend2 (As := [Item.own (.slice (some ⟨b2, 0, none⟩) 5 5) ([0, 0, 0, 1, 2] : (List Int)), Item.box b1 [(.int .i64 0), (.slice none 0 0), (.int .i64 0), (.int .i64 0), (.int .i64 0)]]) [Item.box pb1 [u1, (.int .i64 x1.2.2.1), (.int .i64 x1.2.2.2)]] hC18
 refine WL_call Try.call45 rfl rfl (c_S_l1PickInt pb1 (a1.1, x1.2.2.1, x1.2.2.2) u1 (RO.lent g1 hC18.keep hF2) ([0, 0, 0, 1, 2]) (.slice (some ⟨b2, 0, none⟩) 5 5) (hO2 0 _ _ _ rfl) hH2 hn2 x2 hr2) ?_
 rintro _ w4 ⟨rfl, hq2⟩
 have hC19 : Ctx Fs.flatten w0 w4 [Item.box pb1 [u1, (.int .i64 x2.2.2.1), (.int .i64 x2.2.2.2)], Item.own (.slice (some ⟨b2, 0, none⟩) 5 5) ([0, 0, 0, 1, 2] : (List Int)), Item.box b1 [(.int .i64 0), (.slice none 0 0), (.int .i64 0), (.int .i64 0), (.int .i64 0)]] := hb2 _ _ hq2
 refine WL_move rfl rfl ?_
 obtain ⟨x3, hr3, hF⟩ := bind_some hF
 obtain ⟨Fs3, hH3, hn3, hF3, hO3, hb3⟩ := Ctx.lend2 (As := [Item.own (.slice (some ⟨b2, 0, none⟩) 5 5) ([0, 0, 0, 1, 2] : (List Int)), Item.box b1 [(.int .i64 0), (.slice none 0 0), (.int .i64 0), (.int .i64 0), (.int .i64 0)]]) [Item.box pb1 [u1, (.int .i64 x2.2.2.1), (.int .i64 x2.2.2.2)]] hC19
 refine WL_call Try.call15 rfl rfl (c_S_l1Below pb1 (a1.1, x2.2.2.1, x2.2.2.2) u1 (RO.lent g1 hC19.keep hF3) 5 hH3 hn3 x3 hr3) ?_
 rintro _ w5 ⟨rfl, hq3⟩
 have hC20 : Ctx Fs.flatten w0 w5 [Item.box pb1 [u1, (.int .i64 x3.2.2.1), (.int .i64 x3.2.2.2)], Item.own (.slice (some ⟨b2, 0, none⟩) 5 5) ([0, 0, 0, 1, 2] : (List Int)), Item.box b1 [(.int .i64 0), (.slice none 0 0), (.int .i64 0), (.int .i64 0), (.int .i64 0)]] := hb3 _ _ hq3
 refine WL_move rfl rfl ?_
 obtain ⟨x4, hr4, hF⟩ := bind_some hF
 obtain ⟨Fs4, hH4, hn4, hF4, hO4, hb4⟩ := Ctx.lend2 (As := [Item.own (.slice (some ⟨b2, 0, none⟩) 5 5) ([0, 0, 0, 1, 2] : (List Int)), Item.box b1 [(.int .i64 0), (.slice none 0 0), (.int .i64 0), (.int .i64 0), (.int .i64 0)]]) [Item.box pb1 [u1, (.int .i64 x3.2.2.1), (.int .i64 x3.2.2.2)]] hC20
 refine WL_call Try.call15 rfl rfl (c_S_l1Below pb1 (a1.1, x3.2.2.1, x3.2.2.2) u1 (RO.lent g1 hC20.keep hF4) 6 hH4 hn4 x4 hr4) ?_
 rintro _ w6 ⟨rfl, hq4⟩
 have hC21 : Ctx Fs.flatten w0 w6 [Item.box pb1 [u1, (.int .i64 x4.2.2.1), (.int .i64 x4.2.2.2)], Item.own (.slice (some ⟨b2, 0, none⟩) 5 5) ([0, 0, 0, 1, 2] : (List Int)), Item.box b1 [(.int .i64 0), (.slice none 0 0), (.int .i64 0), (.int .i64 0), (.int .i64 0)]] := hb4 _ _ hq4
 refine WL_add rfl rfl rfl ?_
 refine WL_build (vs := [(0, (.int .i64 x1.1)), (2, (.int .i64 x2.1)), (3, (.int .i64 x3.1)), (4, (.int .i64 (w64 (1 + x4.1))))]) rfl rfl rfl (built65_0_2_3_4 rfl rfl rfl rfl) ?_
 refine WL_alloc hC21 zero65 rfl rfl (fun b3 w7 hC22 hB3 => ?_)
 refine WL_store_box_agg (cs' := [(.int .i64 x1.1), (.slice none 0 0), (.int .i64 x2.1), (.int .i64 x3.1), (.int .i64 (w64 (1 + x4.1)))]) (new := [(.int .i64 x1.1), (.slice none 0 0), (.int .i64 x2.1), (.int .i64 x3.1), (.int .i64 (w64 (1 + x4.1)))]) hC22 0 rfl rfl (by intro v hv; simp only [List.mem_cons, List.not_mem_nil, or_false] at hv; rcases hv with rfl | rfl | rfl | rfl | rfl; exact rfl; exact rfl; exact rfl; exact rfl; exact rfl) rfl Try.sizeOf65 rfl rfl (fun w9 hC23 => ?_)
 try dsimp only [List.set] at hC23
 refine WL_nil ?_
 refine W_seq ?_
 refine W_seq_reg ?_
 refine WL_assign rfl rfl ?_
 refine WL_nil ?_
 obtain ⟨r1, hr5, hF⟩ := bind_some hF
 refine W_norm (fun l w => ∃ x13 : Int, ∃ v2 : Value, ∃ x14 : (List Int), ∃ x15 : Int, ∃ x16 : Int, ∃ x17 : Int, ∃ x18 : Int, ∃ x19 : Int, (x13, x14, x15, x16, x17, x18, x19) = r1 ∧ l = [(4, (ptr b1 0)), (5, (ptr b3 0))] ∧ Ctx Fs.flatten w0 w [Item.own v2 (x14 : (List Int)), Item.box b3 [(.int .i64 x13), v2, (.int .i64 x15), (.int .i64 x16), (.int .i64 x17)], Item.box pb1 [u1, (.int .i64 x18), (.int .i64 x19)], Item.box b1 [(.int .i64 0), (.slice none 0 0), (.int .i64 0), (.int .i64 0), (.int .i64 0)]]) ?_ ?_
 ·refine W_block ?_
  have hC45 := hC23.triv (nil_val (α := Int))
  have hC46 := hC45.f4
  have hC47 := hC46.f3
  have hC48 := hC47.f3
  have hC49 := hC48.f3
  have hC50 := hC49.h4
  refine W.sub (l' := [(0, (ptr pb1 0)), (1, u2), (4, (ptr b1 0)), (5, (ptr b3 0)), (6, (.int .i64 0))]) ?_ ⟨rfl, rfl, rfl, rfl, rfl, trivial⟩
  refine W_loop (fun k l w => ∃ x5 : Int, ∃ v1 : Value, ∃ x6 : (List Int), ∃ x7 : Int, ∃ x8 : Int, ∃ x9 : Int, ∃ x10 : Int, ∃ x11 : Int, ∃ x12 : Int, l = [(0, (ptr pb1 0)), (1, u2), (4, (ptr b1 0)), (5, (ptr b3 0)), (6, (.int .i64 x12))] ∧ Ctx Fs.flatten w0 w [Item.own v1 (x6 : (List Int)), Item.box b3 [(.int .i64 x5), v1, (.int .i64 x7), (.int .i64 x8), (.int .i64 x9)], Item.box pb1 [u1, (.int .i64 x10), (.int .i64 x11)], Item.box b1 [(.int .i64 0), (.slice none 0 0), (.int .i64 0), (.int .i64 0), (.int .i64 0)]] ∧ S.l5Method_l1 a2 a1 k x5 x6 x7 x8 x9 x10 x11 x12 = some r1) FUEL ⟨x1.1, (.slice none 0 0), [], x2.1, x3.1, w64 (1 + x4.1), x4.2.2.1, x4.2.2.2, 0, rfl, hC50, hr5⟩ ?_
  clear hr5
  rintro k1 _ w10 ⟨x5, v1, x6, x7, x8, x9, x10, x11, x12, rfl, hC24, hL1⟩
  cases k1 with
  | zero => rw [S.l5Method_l1] at hL1; cases hL1
  | succ k1 =>
   rw [S.l5Method_l1] at hL1
   refine W_seq ?_
   refine W_seq_reg ?_
   refine WL_move rfl rfl ?_
   refine WL_move rfl rfl ?_
   refine WL_field Try.underlying65 rfl rfl (fun w => ⟨_, Try.sizeOf3 w⟩) rfl rfl ?_
   refine WL_load_box hC24 1 rfl rfl Try.isAgg3 rfl rfl ?_
   obtain ⟨x20, hx1, hL1⟩ := bind_some hL1
   refine WL_index Try.underlying35 ty3 g2 hx1 rfl rfl rfl (fun b4 o1 h1 => ?_)
   refine WL_load ty3 h1 hC24.keep rfl rfl (fun v3 h2 => ?_)
   obtain rfl := ro_int h2
   refine WL_lss rfl rfl rfl ?_
   refine WL_nil ?_
   refine W_cond rfl (fun hc1 => ?_) (fun hc1 => ?_)
   ·replace hL1 := ite_t hL1 hc1
    refine W_skip ?_
    refine nrm_normal ?_
    refine W_seq ?_
    refine W_block ?_
    refine W_seq_reg ?_
    refine WL_move rfl rfl ?_
    obtain ⟨x21, hr6, hL1⟩ := bind_some hL1
    have hC25 := hC24.f2
    obtain ⟨Fs5, hH5, hn5, hF5, hO5, hb5⟩ := Ctx.lend2 (As := [Item.own v1 (x6 : (List Int)), Item.box b3 [(.int .i64 x5), v1, (.int .i64 x7), (.int .i64 x8), (.int .i64 x9)], Item.box b1 [(.int .i64 0), (.slice none 0 0), (.int .i64 0), (.int .i64 0), (.int .i64 0)]]) [Item.box pb1 [u1, (.int .i64 x10), (.int .i64 x11)]] hC25
    refine WL_call Try.call36 rfl rfl (c_S_l1Once pb1 (a1.1, x10, x11) u1 (RO.lent g1 hC25.keep hF5) 3 hH5 hn5 x21 hr6) ?_
    rintro _ w11 ⟨rfl, hq5⟩
    have hC26 : Ctx Fs.flatten w0 w11 [Item.box pb1 [u1, (.int .i64 x21.2.2.1), (.int .i64 x21.2.2.2)], Item.own v1 (x6 : (List Int)), Item.box b3 [(.int .i64 x5), v1, (.int .i64 x7), (.int .i64 x8), (.int .i64 x9)], Item.box b1 [(.int .i64 0), (.slice none 0 0), (.int .i64 0), (.int .i64 0), (.int .i64 0)]] := hb5 _ _ hq5
    refine WL_nil ?_
    obtain ⟨r2, hr7, hL1⟩ := bind_some hL1
    refine W_norm (fun l w => ∃ x22 : Int, ∃ v4 : Value, ∃ x23 : (List Int), ∃ x24 : Int, ∃ x25 : Int, ∃ x26 : Int, (x22, x23, x24, x25, x26) = r2 ∧ l = [(0, (ptr pb1 0)), (1, u2), (4, (ptr b1 0)), (5, (ptr b3 0)), (6, (.int .i64 x12))] ∧ Ctx Fs.flatten w0 w [Item.box pb1 [u1, (.int .i64 x21.2.2.1), (.int .i64 x21.2.2.2)], Item.own v4 (x23 : (List Int)), Item.box b3 [(.int .i64 x22), v4, (.int .i64 x24), (.int .i64 x25), (.int .i64 x26)], Item.box b1 [(.int .i64 0), (.slice none 0 0), (.int .i64 0), (.int .i64 0), (.int .i64 0)]]) ?_ ?_
    ·refine W_cond rfl (fun hc2 => ?_) (fun hc2 => ?_)
     ·replace hr7 := ite_t hr7 hc2
      refine W_reg ?_
      refine WL_field Try.underlying65 rfl rfl (fun w => ⟨_, Try.sizeOf35 w⟩) rfl rfl ?_
      refine WL_load_box hC26 2 rfl rfl Try.isAgg35 rfl rfl ?_
      refine WL_move rfl rfl ?_
      refine WL_buildSlice (vs := [(.int .i64 x12)]) hC26 Try.underlying35 ty3 rfl rfl rfl rfl (by intro v hv; simp only [List.mem_cons, List.not_mem_nil, or_false] at hv; rcases hv with rfl <;> rfl) rfl rfl (fun b5 w13 hC28 hB6 => ?_)
      have hC29 := hC28.row0 (α := Int)
      have hC30 := hC29.triv (int_val (x12))
      have hC31 := hC30.row1
      have hC32 := hC31.front 1 rfl
      dsimp only [List.eraseIdx, List.cons_append, List.nil_append, List.append_nil] at hC32
      have hC33 : Ctx Fs.flatten w0 w13 (Item.own (.slice (some ⟨b5, 0, none⟩) 1 1) ([x12] : List Int) :: [Item.box pb1 [u1, (.int .i64 x21.2.2.1), (.int .i64 x21.2.2.2)], Item.own v1 (x6 : (List Int)), Item.box b3 [(.int .i64 x5), v1, (.int .i64 x7), (.int .i64 x8), (.int .i64 x9)], Item.box b1 [(.int .i64 0), (.slice none 0 0), (.int .i64 0), (.int .i64 0), (.int .i64 0)]]) := hC32.rowOwn (by simp [maxLen])
      obtain ⟨x27, hx2, hr7⟩ := bind_some hr7
      refine WL_append_flat (α := Int) hC33 2 rfl (hC33.ro 0 rfl) (Keep.refl _ _) Try.underlying35 ty3 rfl hx2 rfl rfl rfl (fun v5 w14 hC34 => ?_)
      try dsimp only [List.set] at hC34
      refine WL_field Try.underlying65 rfl rfl (fun w => ⟨_, Try.sizeOf35 w⟩) rfl rfl ?_
      refine WL_store_box (cs' := [(.int .i64 x5), v5, (.int .i64 x7), (.int .i64 x8), (.int .i64 x9)]) hC34 3 rfl rfl (ro_one (hC34.ro 2 rfl)) rfl Try.sizeOf35 rfl rfl (fun w15 hC35 => ?_)
      try dsimp only [List.set] at hC35
      refine WL_nil ?_
      have hq6 := Option.some.inj hr7
      subst hq6
      have hC36 := hC35.f4
      have hC37 := hC36.f4
      have hC38 := hC37.f4
      have hC39 := hC38.f4
      have hC40 := hC39.h4
      refine nrm_sub (l' := [(0, (ptr pb1 0)), (1, u2), (4, (ptr b1 0)), (5, (ptr b3 0)), (6, (.int .i64 x12))]) ⟨rfl, rfl, rfl, rfl, rfl, trivial⟩ ?_
      exact ⟨x5, v5, x27, x7, x8, x9, rfl, rfl, hC40⟩
     replace hr7 := ite_f hr7 hc2
     refine W_skip ?_
     have hq7 := Option.some.inj hr7
     subst hq7
     refine nrm_sub (l' := [(0, (ptr pb1 0)), (1, u2), (4, (ptr b1 0)), (5, (ptr b3 0)), (6, (.int .i64 x12))]) ⟨rfl, rfl, rfl, rfl, rfl, trivial⟩ ?_
     exact ⟨x5, v1, x6, x7, x8, x9, rfl, rfl, hC26⟩
    rintro l2 _ w12 hs2 ⟨x22, v4, x23, x24, x25, x26, rfl, rfl, hC27⟩
    try dsimp only at hL1
    refine blk_normal ?_
    refine nrm_sub' hs2 ?_
    clear hs2
    refine W_reg ?_
    refine WL_move rfl rfl ?_
    refine WL_add rfl rfl rfl ?_
    refine WL_assign rfl rfl ?_
    refine WL_nil ?_
    have hC41 := hC27.f3
    have hC42 := hC41.f1
    have hC43 := hC42.f3
    have hC44 := hC43.f3
    refine nrm_sub (l' := [(0, (ptr pb1 0)), (1, u2), (4, (ptr b1 0)), (5, (ptr b3 0)), (6, (.int .i64 (w64 (x12 + 1))))]) ⟨rfl, rfl, rfl, rfl, rfl, trivial⟩ ?_
    exact ⟨k1, Nat.lt_succ_self _, x22, v4, x23, x24, x25, x26, x21.2.2.1, x21.2.2.2, w64 (x12 + 1), rfl, hC44, hL1⟩
   replace hL1 := ite_f hL1 hc1
   refine W_exit ?_
   refine nrm_exit ?_
   refine nrm_exit ?_
   refine blk_exit ?_
   have hq8 := Option.some.inj hL1
   subst hq8
   refine nrm_sub (l' := [(4, (ptr b1 0)), (5, (ptr b3 0))]) ⟨rfl, rfl, trivial⟩ ?_
   exact ⟨x5, v1, x6, x7, x8, x9, x10, x11, rfl, rfl, hC24⟩
 rintro l3 _ w16 hs3 ⟨x13, v2, x14, x15, x16, x17, x18, x19, rfl, rfl, hC51⟩
 try dsimp only at hF
 refine nrm_sub' hs3 ?_
 clear hs3
 refine W_seq_reg ?_
 refine WL_load_box_agg [(.int .i64 x13), v2, (.int .i64 x15), (.int .i64 x16), (.int .i64 x17)] hC51 1 rfl rfl rfl Try.isAgg65 Try.sizeOf65 rfl rfl ?_
 refine WL_store_box_agg (cs' := [(.int .i64 x13), v2, (.int .i64 x15), (.int .i64 x16), (.int .i64 x17)]) (new := [(.int .i64 x13), v2, (.int .i64 x15), (.int .i64 x16), (.int .i64 x17)]) hC51 3 rfl rfl (by intro v hv; simp only [List.mem_cons, List.not_mem_nil, or_false] at hv; rcases hv with rfl | rfl | rfl | rfl | rfl; exact rfl; exact (ro_one (hC51.ro 0 rfl)); exact rfl; exact rfl; exact rfl) rfl Try.sizeOf65 rfl rfl (fun w17 hC52 => ?_)
 try dsimp only [List.set] at hC52
 refine WL_nil ?_
 refine W_ret ?_
 have hq9 := Option.some.inj hF
 subst hq9
 refine fn_retG1 rfl (rv_cell_agg (cs' := [(.int .i64 x13), v2, (.int .i64 x15), (.int .i64 x16), (.int .i64 x17)]) hC52 (i := 3) rfl rfl rfl Try.isAgg65 Try.sizeOf65 rfl) ?_
 have hC53 := hC52.f2
 have hC55 := hC53.f1
 have hC54 := own_st65 x13 v2 x14 x15 x16 x17 hC55
 have hC56 := hC54.h2
 exact ⟨_, rfl, _, rfl, hC56⟩

theorem c_S_l5Methods {w0 : World} {Fs : List (List Nat)} (pb1 : Nat) (a1 : ((List UInt8) × Int × Int)) (u1 : Value) (g1 : RO Fs.flatten w0 u1 a1.1) (a2 : (List Int)) (u2 : Value) (g2 : RO Fs.flatten w0 u2 a2) (hH : Hold [Item.box pb1 [u1, (.int .i64 a1.2.1), (.int .i64 a1.2.2)]] w0 Fs) (hn : Fs.flatten.Nodup) (rr : ((List (Int × (List Int) × Int × Int × Int)) × ((List UInt8) × Int × Int))) (hF : S.l5Methods a1 a2 = some rr) :
 Calls Try.prog 40 [(ptr pb1 0), u2].toArray w0 fun e w' => ∃ v, e = .returned v ∧ ∃ q0 : Value, v = q0 ∧ Ctx Fs.flatten w0 w' [Item.own q0 (rr.1 : (List (Int × (List Int) × Int × Int × Int))), Item.box pb1 [u1, (.int .i64 rr.2.2.1), (.int .i64 rr.2.2.2)]] := by
 refine calls_of_W Try.func40 rfl rfl ?_
 have hC0 := Ctx.startIn hH hn
 unfold S.l5Methods at hF
 refine W_seq_reg ?_
 refine WL_assign rfl rfl ?_
 refine WL_nil ?_
 refine W_seq_reg ?_
 refine WL_buildSlice (vs := []) hC0 Try.underlying50 ty65 rfl rfl rfl rfl (by simp) rfl rfl (fun b1 w1 hC1 hB1 => ?_)
 have hC2 := hC1.row0 (α := (Int × (List Int) × Int × Int × Int))
 have hC3 := hC2.front 1 rfl
 dsimp only [List.eraseIdx, List.cons_append, List.nil_append, List.append_nil] at hC3
 have hC4 : Ctx Fs.flatten w0 w1 (Item.own (.slice (some ⟨b1, 0, none⟩) 0 0) (([] : List (Int × (List Int) × Int × Int × Int)) : List (Int × (List Int) × Int × Int × Int)) :: [Item.box pb1 [u1, (.int .i64 a1.2.1), (.int .i64 a1.2.2)]]) := hC3.rowOwn (by simp [maxLen])
 refine WL_assign rfl rfl ?_
 refine WL_nil ?_
 refine W_seq ?_
 refine W_seq_reg ?_
 refine WL_move rfl rfl ?_
 obtain ⟨x1, hr1, hF⟩ := bind_some hF
 have hC5 := hC4.f1
 obtain ⟨Fs1, hH1, hn1, hF1, hO1, hb1⟩ := Ctx.lend2 (As := [Item.own (.slice (some ⟨b1, 0, none⟩) 0 0) (([] : List (Int × (List Int) × Int × Int × Int)) : (List (Int × (List Int) × Int × Int × Int)))]) [Item.box pb1 [u1, (.int .i64 a1.2.1), (.int .i64 a1.2.2)]] hC5
 refine WL_call Try.call15 rfl rfl (c_S_l1Below pb1 (a1.1, a1.2.1, a1.2.2) u1 (RO.lent g1 hC5.keep hF1) 4 hH1 hn1 x1 hr1) ?_
 rintro _ w2 ⟨rfl, hq1⟩
 have hC6 : Ctx Fs.flatten w0 w2 [Item.box pb1 [u1, (.int .i64 x1.2.2.1), (.int .i64 x1.2.2.2)], Item.own (.slice (some ⟨b1, 0, none⟩) 0 0) (([] : List (Int × (List Int) × Int × Int × Int)) : (List (Int × (List Int) × Int × Int × Int)))] := hb1 _ _ hq1
 refine WL_add rfl rfl rfl ?_
 refine WL_assign rfl rfl ?_
 refine WL_nil ?_
 obtain ⟨r1, hr2, hF⟩ := bind_some hF
 refine W_norm (fun l w => ∃ x6 : Int, ∃ x7 : Int, ∃ v2 : Value, ∃ x8 : (List (Int × (List Int) × Int × Int × Int)), (x6, x7, x8) = r1 ∧ l = [(5, v2)] ∧ Ctx Fs.flatten w0 w [Item.box pb1 [u1, (.int .i64 x6), (.int .i64 x7)], Item.own v2 (x8 : (List (Int × (List Int) × Int × Int × Int)))]) ?_ ?_
 ·refine W_block ?_
  refine W.sub (l' := [(0, (ptr pb1 0)), (1, u2), (5, (.slice (some ⟨b1, 0, none⟩) 0 0)), (6, (.int .i64 (w64 (1 + x1.1))))]) ?_ ⟨rfl, rfl, rfl, rfl, trivial⟩
  refine W_loop (fun k l w => ∃ x2 : Int, ∃ x3 : Int, ∃ v1 : Value, ∃ x4 : (List (Int × (List Int) × Int × Int × Int)), ∃ x5 : Int, l = [(0, (ptr pb1 0)), (1, u2), (5, v1), (6, (.int .i64 x5))] ∧ Ctx Fs.flatten w0 w [Item.box pb1 [u1, (.int .i64 x2), (.int .i64 x3)], Item.own v1 (x4 : (List (Int × (List Int) × Int × Int × Int)))] ∧ S.l5Methods_l1 a1 a2 k x2 x3 x4 x5 = some r1) FUEL ⟨x1.2.2.1, x1.2.2.2, (.slice (some ⟨b1, 0, none⟩) 0 0), ([] : List (Int × (List Int) × Int × Int × Int)), w64 (1 + x1.1), rfl, hC6, hr2⟩ ?_
  clear hr2
  rintro k1 _ w3 ⟨x2, x3, v1, x4, x5, rfl, hC7, hL1⟩
  cases k1 with
  | zero => rw [S.l5Methods_l1] at hL1; cases hL1
  | succ k1 =>
   rw [S.l5Methods_l1] at hL1
   refine W_seq ?_
   refine W_seq_reg ?_
   refine WL_move rfl rfl ?_
   refine WL_gtr rfl rfl rfl ?_
   refine WL_nil ?_
   refine W_cond rfl (fun hc1 => ?_) (fun hc1 => ?_)
   ·replace hL1 := ite_t hL1 hc1
    refine W_skip ?_
    refine nrm_normal ?_
    refine W_seq ?_
    refine W_block ?_
    refine W_seq_reg ?_
    refine WL_move rfl rfl ?_
    refine WL_move rfl rfl ?_
    obtain ⟨x9, hr3, hL1⟩ := bind_some hL1
    obtain ⟨Fs2, hH2, hn2, hF2, hO2, hb2⟩ := Ctx.lend2 (As := [Item.own v1 (x4 : (List (Int × (List Int) × Int × Int × Int)))]) [Item.box pb1 [u1, (.int .i64 x2), (.int .i64 x3)]] hC7
    refine WL_call Try.call49 rfl rfl (c_S_l5Method pb1 (a1.1, x2, x3) u1 (RO.lent g1 hC7.keep hF2) a2 u2 (RO.lent g2 hC7.keep hF2) hH2 hn2 x9 hr3) ?_
    rintro v3 w4 ⟨_, rfl, hq2⟩
    have hC8 : Ctx Fs.flatten w0 w4 [Item.own v3 (x9.1 : (Int × (List Int) × Int × Int × Int)), Item.box pb1 [u1, (.int .i64 x9.2.2.1), (.int .i64 x9.2.2.2)], Item.own v1 (x4 : (List (Int × (List Int) × Int × Int × Int)))] := hb2 _ _ hq2
    obtain ⟨v4, rfl, hC9⟩ := st65_own hC8
    refine WL_alloc hC9 zero65 rfl rfl (fun b2 w5 hC10 hB3 => ?_)
    refine WL_store_box_agg (cs' := [(.int .i64 x9.1.1), v4, (.int .i64 x9.1.2.2.1), (.int .i64 x9.1.2.2.2.1), (.int .i64 x9.1.2.2.2.2)]) (new := [(.int .i64 x9.1.1), v4, (.int .i64 x9.1.2.2.1), (.int .i64 x9.1.2.2.2.1), (.int .i64 x9.1.2.2.2.2)]) hC10 0 rfl rfl (by intro v hv; simp only [List.mem_cons, List.not_mem_nil, or_false] at hv; rcases hv with rfl | rfl | rfl | rfl | rfl; exact rfl; exact (ro_one (hC10.ro 1 rfl)); exact rfl; exact rfl; exact rfl) rfl Try.sizeOf65 rfl rfl (fun w6 hC11 => ?_)
    try dsimp only [List.set] at hC11
    refine WL_nil ?_
    refine W_reg ?_
    refine WL_move rfl rfl ?_
    refine WL_load_box_agg [(.int .i64 x9.1.1), v4, (.int .i64 x9.1.2.2.1), (.int .i64 x9.1.2.2.2.1), (.int .i64 x9.1.2.2.2.2)] hC11 0 rfl rfl rfl Try.isAgg65 Try.sizeOf65 rfl rfl ?_
    refine WL_buildSlice (vs := [(.agg #[(.int .i64 x9.1.1), v4, (.int .i64 x9.1.2.2.1), (.int .i64 x9.1.2.2.2.1), (.int .i64 x9.1.2.2.2.2)])]) hC11 Try.underlying50 ty65 rfl rfl rfl rfl (by intro v hv; simp only [List.mem_cons, List.not_mem_nil, or_false] at hv; rcases hv with rfl <;> rfl) rfl rfl (fun b3 w7 hC12 hB4 => ?_)
    have hC13 := hC12.row0 (α := (Int × (List Int) × Int × Int × Int))
    have hC15 := hC13.f3
    have hC14 := own_st65 x9.1.1 v4 x9.1.2.1 x9.1.2.2.1 x9.1.2.2.2.1 x9.1.2.2.2.2 hC15
    have hC16 := hC14.row1
    have hC17 := hC16.front 1 rfl
    dsimp only [List.eraseIdx, List.cons_append, List.nil_append, List.append_nil] at hC17
    have hC18 : Ctx Fs.flatten w0 w7 (Item.own (.slice (some ⟨b3, 0, none⟩) 1 1) ([(x9.1.1, x9.1.2.1, x9.1.2.2.1, x9.1.2.2.2.1, x9.1.2.2.2.2)] : List (Int × (List Int) × Int × Int × Int)) :: [Item.box b2 [(.int .i64 x9.1.1), v4, (.int .i64 x9.1.2.2.1), (.int .i64 x9.1.2.2.2.1), (.int .i64 x9.1.2.2.2.2)], Item.box pb1 [u1, (.int .i64 x9.2.2.1), (.int .i64 x9.2.2.2)], Item.own v1 (x4 : (List (Int × (List Int) × Int × Int × Int)))]) := hC17.rowOwn (by simp [maxLen])
    obtain ⟨x10, hx1, hL1⟩ := bind_some hL1
    refine WL_append_head hC18 2 rfl Try.underlying50 ty65 rfl hx1 rfl rfl rfl (fun v5 w9 hC19 => ?_)
    try dsimp only [List.set] at hC19
    refine WL_assign rfl rfl ?_
    refine WL_nil ?_
    refine blk_normal ?_
    refine nrm_normal ?_
    refine W_reg ?_
    refine WL_move rfl rfl ?_
    refine WL_sub rfl rfl rfl ?_
    refine WL_assign rfl rfl ?_
    refine WL_nil ?_
    have hC21 := hC19.f2
    have hC22 := hC21.f2
    have hC23 := hC22.h2
    refine nrm_sub (l' := [(0, (ptr pb1 0)), (1, u2), (5, v5), (6, (.int .i64 (w64 (x5 - 1))))]) ⟨rfl, rfl, rfl, rfl, trivial⟩ ?_
    exact ⟨k1, Nat.lt_succ_self _, x9.2.2.1, x9.2.2.2, v5, x10, w64 (x5 - 1), rfl, hC23, hL1⟩
   replace hL1 := ite_f hL1 hc1
   refine W_exit ?_
   refine nrm_exit ?_
   refine nrm_exit ?_
   refine blk_exit ?_
   have hq3 := Option.some.inj hL1
   subst hq3
   refine nrm_sub (l' := [(5, v1)]) ⟨rfl, trivial⟩ ?_
   exact ⟨x2, x3, v1, x4, rfl, rfl, hC7⟩
 rintro l2 _ w10 hs2 ⟨x6, x7, v2, x8, rfl, rfl, hC24⟩
 try dsimp only at hF
 refine nrm_sub' hs2 ?_
 clear hs2
 refine W_seq_reg ?_
 refine WL_move rfl rfl ?_
 refine WL_assign rfl rfl ?_
 refine WL_nil ?_
 refine W_ret ?_
 have hq4 := Option.some.inj hF
 subst hq4
 refine fn_ret1 rfl rfl ?_
 have hC25 := hC24.f1
 exact ⟨_, rfl, _, rfl, hC25⟩

end Go.Gx.Px
