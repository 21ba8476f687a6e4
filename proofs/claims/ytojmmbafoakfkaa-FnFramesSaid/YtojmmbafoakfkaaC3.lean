/- The contracts of the Go functions against the pure functions, printed by program. Conditions: each says them. -/
import Derived.Test.YtojmmbafoakfkaaC2
set_option linter.unusedVariables false
set_option linter.unusedSimpArgs false
set_option maxRecDepth 100000
set_option maxHeartbeats 4000000
namespace Go.Gx.Px
open Go.Proofs Go.RowKit

theorem c_M_FrameOf {w0 : World} (a1 : Str) (rr : Str) (hF : M.FrameOf a1 = some rr) :
 Calls Try.prog 10 [(sv a1)].toArray w0 fun e w' => ∃ v, e = .returned v ∧ Res w0 rr v w' := by
 refine calls_of_W Try.func10 rfl rfl ?_
 have hC0 := Ctx.start w0
 unfold M.FrameOf at hF
 refine W_seq_reg ?_
 refine WL_assign rfl rfl ?_
 refine WL_nil ?_
 refine W_seq ?_
 refine W_seq_reg ?_
 refine WL_move rfl rfl ?_
 refine WL_len_str Try.underlying9 rfl rfl ?_
 refine WL_gtr rfl rfl rfl ?_
 refine WL_nil ?_
 refine W_cond rfl (fun hc1 => ?_) (fun hc1 => ?_)
 ·replace hF := ite_t hF hc1
  refine W_seq_reg ?_
  refine WL_assign rfl rfl ?_
  refine WL_nil ?_
  refine W_ret ?_
  refine nrm_ret ?_
  have hq1 := Option.some.inj hF
  subst hq1
  refine fn_ret1 rfl rfl ?_
  exact ⟨_, rfl, str_res hC0 _⟩
 replace hF := ite_f hF hc1
 refine W_skip ?_
 refine nrm_normal ?_
 refine W_seq_reg ?_
 refine WL_move rfl rfl ?_
 refine WL_len_str Try.underlying9 rfl rfl ?_
 obtain ⟨x1, hr1, hF⟩ := bind_some hF
 refine WL_call Try.call25 rfl rfl (c_M_EncodeVarint (List.length a1 : Int) x1 hr1) ?_
 intro _ w1 hv1
 obtain ⟨rfl, hB1⟩ := res_str hv1
 have hC1 := hC0.grow hB1
 refine WL_move rfl rfl ?_
 obtain ⟨x2, hx1, hF⟩ := bind_some hF
 refine WL_str_add hx1 rfl rfl rfl ?_
 refine WL_move rfl rfl ?_
 obtain ⟨x3, hr2, hF⟩ := bind_some hF
 refine WL_call Try.call12 rfl rfl (c_M_CheckByte a1 x3 hr2) ?_
 intro _ w2 hv2
 obtain ⟨rfl, hB2⟩ := res_int hv2
 have hC2 := hC1.grow hB2
 refine WL_conv_u8 Try.underlying3 Try.underlying5 rfl rfl ?_
 refine WL_buildSlice (vs := [(.int .u8 (w8 x3))]) hC2 Try.underlying22 ty5 rfl rfl rfl rfl (by intro v hv; simp only [List.mem_cons, List.not_mem_nil, or_false] at hv; rcases hv with rfl <;> rfl) rfl rfl (fun b1 w3 hC3 hB3 => ?_)
 have hC4 := hC3.row0 (α := UInt8)
 have hC5 := hC4.triv (u8_val x3)
 have hC6 := hC5.row1
 have hC7 := hC6.front 1 rfl
 dsimp only [List.eraseIdx, List.cons_append, List.nil_append, List.append_nil] at hC7
 have hC8 : Ctx [] w0 w3 (Item.own (.slice (some ⟨b1, 0, none⟩) 1 1) ([(u8 x3)] : List UInt8) :: []) := hC7.rowOwn (by simp [maxLen])
 refine WL_conv_bytes Try.underlying22 Try.underlying5 Try.underlying9 (hC8.ro 0 rfl) (Keep.refl _ _) rfl rfl ?_
 obtain ⟨x4, hx2, hF⟩ := bind_some hF
 refine WL_str_add hx2 rfl rfl rfl ?_
 refine WL_assign rfl rfl ?_
 refine WL_nil ?_
 refine W_ret ?_
 have hq2 := Option.some.inj hF
 subst hq2
 refine fn_ret1 rfl rfl ?_
 exact ⟨_, rfl, str_res hC8 _⟩

theorem c_Q_FnFrames {w0 : World} (a1 : (List UInt8)) (u1 : Value) (g1 : RO [] w0 u1 a1) (rr : Bool) (hF : Q.FnFrames a1 = some rr) :
 Calls Try.prog 3 [u1].toArray w0 fun e w' => ∃ v, e = .returned v ∧ Res w0 rr v w' := by
 refine calls_of_W Try.func3 rfl rfl ?_
 have hC0 := Ctx.start w0
 unfold Q.FnFrames at hF
 refine W_seq_reg ?_
 refine WL_assign rfl rfl ?_
 refine WL_nil ?_
 refine W_seq ?_
 refine W_seq_reg ?_
 refine WL_move rfl rfl ?_
 obtain ⟨x1, hr1, hF⟩ := bind_some hF
 refine WL_call Try.call4 rfl rfl (c_Q_big a1 u1 (g1.now hC0.keep) x1 hr1) ?_
 intro _ w1 hv1
 obtain ⟨rfl, hB1⟩ := res_bool hv1
 have hC1 := hC0.grow hB1
 refine WL_nil ?_
 refine W_cond rfl (fun hc1 => ?_) (fun hc1 => ?_)
 ·replace hF := ite_t hF hc1
  refine W_seq_reg ?_
  refine WL_assign rfl rfl ?_
  refine WL_nil ?_
  refine W_ret ?_
  refine nrm_ret ?_
  have hq1 := Option.some.inj hF
  subst hq1
  refine fn_ret1 rfl rfl ?_
  exact ⟨_, rfl, bool_res hC1 _⟩
 replace hF := ite_f hF hc1
 refine W_skip ?_
 refine nrm_normal ?_
 refine W_seq_reg ?_
 refine WL_move rfl rfl ?_
 obtain ⟨x2, hr2, hF⟩ := bind_some hF
 refine WL_call Try.call5 rfl rfl (c_S_DrawSplitFrames a1 u1 (g1.now hC1.keep) x2 hr2) ?_
 intro _ w2 hv2
 obtain ⟨rfl, hB2⟩ := res_str hv2
 have hC2 := hC1.grow hB2
 refine WL_assign rfl rfl ?_
 refine WL_nil ?_
 refine W_seq_reg ?_
 refine WL_move rfl rfl ?_
 obtain ⟨x3, hr3, hF⟩ := bind_some hF
 refine WL_call Try.call6 rfl rfl (c_M_SplitFrames x2 x3 hr3) ?_
 rintro _ w3 ⟨hB3, v1, v2, v3, F1, F2, F3, rfl, hv3, hv4, hv5, hn1, hb1⟩
 obtain ⟨rfl, rfl⟩ := val_str hv4
 obtain ⟨rfl, rfl⟩ := val_bool hv5
 have hC3 := hC2.pushL hB3 (Bs := [Item.own v1 x3.1]) (Fs := [F1]) ⟨F1, _, rfl, hv3, rfl⟩ (by simpa using hn1) (fun b h => hb1 b (by simpa using h))
 refine WL_move rfl rfl ?_
 refine WL_extract rfl rfl rfl ?_
 refine WL_extract rfl rfl rfl ?_
 refine WL_extract rfl rfl rfl ?_
 refine WL_assign rfl rfl ?_
 refine WL_assign rfl rfl ?_
 refine WL_assign rfl rfl ?_
 refine WL_nil ?_
 refine W_seq_reg ?_
 refine WL_move rfl rfl ?_
 obtain ⟨x4, hr4, hF⟩ := bind_some hF
 refine WL_call Try.call7 rfl rfl (c_S_SplitFrames x2 x4 hr4) ?_
 rintro _ w4 ⟨hB4, v4, v5, v6, F4, F5, F6, rfl, hv6, hv7, hv8, hn2, hb2⟩
 obtain ⟨rfl, rfl⟩ := val_str hv7
 obtain ⟨rfl, rfl⟩ := val_bool hv8
 have hC4 := hC3.pushL hB4 (Bs := [Item.own v4 x4.1]) (Fs := [F4]) ⟨F4, _, rfl, hv6, rfl⟩ (by simpa using hn2) (fun b h => hb2 b (by simpa using h))
 refine WL_move rfl rfl ?_
 refine WL_extract rfl rfl rfl ?_
 refine WL_extract rfl rfl rfl ?_
 refine WL_extract rfl rfl rfl ?_
 refine WL_assign rfl rfl ?_
 refine WL_assign rfl rfl ?_
 refine WL_assign rfl rfl ?_
 refine WL_nil ?_
 refine W_seq ?_
 obtain ⟨r1, hr5, hF⟩ := bind_some hF
 refine W_cut (fun l w => ∃ x5 : Bool, x5 = r1 ∧ l = [(0, u1), (3, (sv x2)), (4, v1), (7, v4), (8, (sv x4.2.1)), (9, (.bool x4.2.2)), (53, (.bool x5))] ∧ Below w4.heap.size w4 w ∧ Ctx [] w0 w [Item.own v4 (x4.1 : (List Str)), Item.own v1 (x3.1 : (List Str))]) ?_ ?_
 ·refine W_reg ?_
  refine WL_move rfl rfl ?_
  refine WL_move rfl rfl ?_
  refine WL_bool_neq Try.underlying4 rfl rfl rfl ?_
  refine WL_move rfl rfl ?_
  refine WL_fork (fun hc2 => ?_) (fun hc2 => ?_)
  ·replace hr5 := ite_t hr5 hc2
   refine WL_guard_skip rfl rfl (by simp) rfl ?_
   refine WL_guard_skip rfl rfl (by simp) rfl ?_
   refine WL_guard_skip rfl rfl (by simp) rfl ?_
   refine WL_pick_t rfl rfl rfl ?_
   refine WL_move rfl rfl ?_
   refine WL_guard_skip rfl rfl (by simp) rfl ?_
   refine WL_guard_skip rfl rfl (by simp) rfl ?_
   refine WL_guard_skip rfl rfl (by simp) rfl ?_
   refine WL_guard_skip rfl rfl (by simp) rfl ?_
   refine WL_guard_skip rfl rfl (by simp) rfl ?_
   refine WL_pick_t rfl rfl rfl ?_
   refine WL_nil ?_
   have hq2 := Option.some.inj hr5
   subst hq2
   refine nrm_sub (l' := [(0, u1), (3, (sv x2)), (4, v1), (7, v4), (8, (sv x4.2.1)), (9, (.bool x4.2.2)), (53, (.bool true))]) ⟨rfl, rfl, rfl, rfl, rfl, rfl, rfl, trivial⟩ ?_
   exact ⟨true, rfl, rfl, (Below.refl _ _), hC4⟩
  replace hr5 := ite_f hr5 hc2
  refine WL_guard rfl rfl ?_
  refine WL_move rfl rfl ?_
  refine WL_guard rfl rfl ?_
  refine WL_move rfl rfl ?_
  refine WL_guard rfl rfl ?_
  refine WL_str_neq rfl rfl rfl ?_
  refine WL_pick_f rfl rfl rfl ?_
  refine WL_move rfl rfl ?_
  refine WL_fork (fun hc3 => ?_) (fun hc3 => ?_)
  ·replace hr5 := ite_t hr5 hc3
   refine WL_guard_skip rfl rfl (by simp) rfl ?_
   refine WL_guard_skip rfl rfl (by simp) rfl ?_
   refine WL_guard_skip rfl rfl (by simp) rfl ?_
   refine WL_guard_skip rfl rfl (by simp) rfl ?_
   refine WL_guard_skip rfl rfl (by simp) rfl ?_
   refine WL_pick_t rfl rfl rfl ?_
   refine WL_nil ?_
   have hq3 := Option.some.inj hr5
   subst hq3
   refine nrm_sub (l' := [(0, u1), (3, (sv x2)), (4, v1), (7, v4), (8, (sv x4.2.1)), (9, (.bool x4.2.2)), (53, (.bool true))]) ⟨rfl, rfl, rfl, rfl, rfl, rfl, rfl, trivial⟩ ?_
   exact ⟨true, rfl, rfl, (Below.refl _ _), hC4⟩
  replace hr5 := ite_f hr5 hc3
  refine WL_guard rfl rfl ?_
  refine WL_move rfl rfl ?_
  refine WL_guard rfl rfl ?_
  refine WL_len Try.underlying25 (hC4.ro 1 rfl) rfl rfl ?_
  refine WL_guard rfl rfl ?_
  refine WL_move rfl rfl ?_
  refine WL_guard rfl rfl ?_
  refine WL_len Try.underlying25 (hC4.ro 0 rfl) rfl rfl ?_
  refine WL_guard rfl rfl ?_
  refine WL_neq rfl rfl rfl ?_
  refine WL_pick_f rfl rfl rfl ?_
  refine WL_nil ?_
  have hq4 := Option.some.inj hr5
  subst hq4
  refine nrm_sub (l' := [(0, u1), (3, (sv x2)), (4, v1), (7, v4), (8, (sv x4.2.1)), (9, (.bool x4.2.2)), (53, (.bool (!decide ((List.length x3.1 : Int) = (List.length x4.1 : Int)))))]) ⟨rfl, rfl, rfl, rfl, rfl, rfl, rfl, trivial⟩ ?_
  exact ⟨(!decide ((List.length x3.1 : Int) = (List.length x4.1 : Int))), rfl, rfl, (Below.refl _ _), hC4⟩
 rintro _ w5 ⟨x5, rfl, rfl, hB5, hC5⟩
 try dsimp only at hF
 refine W_cond rfl (fun hc4 => ?_) (fun hc4 => ?_)
 ·replace hF := ite_t hF hc4
  refine W_seq_reg ?_
  refine WL_assign rfl rfl ?_
  refine WL_nil ?_
  refine W_ret ?_
  refine nrm_ret ?_
  have hq5 := Option.some.inj hF
  subst hq5
  refine fn_ret1 rfl rfl ?_
  exact ⟨_, rfl, bool_res hC5 _⟩
 replace hF := ite_f hF hc4
 refine W_skip ?_
 refine nrm_normal ?_
 refine W_seq ?_
 refine W_seq_reg ?_
 refine WL_assign rfl rfl ?_
 refine WL_nil ?_
 obtain ⟨r2, hr6, hF⟩ := bind_some hF
 refine W_norm (fun l w => .inl () = r2 ∧ l = [(0, u1), (3, (sv x2)), (7, v4), (8, (sv x4.2.1)), (9, (.bool x4.2.2))] ∧ Below w5.heap.size w5 w ∧ Ctx [] w0 w [Item.own v4 (x4.1 : (List Str))]) ?_ ?_
 ·refine W_block ?_
  refine W.sub (l' := [(0, u1), (3, (sv x2)), (4, v1), (7, v4), (8, (sv x4.2.1)), (9, (.bool x4.2.2)), (10, (.int .i64 0))]) ?_ ⟨rfl, rfl, rfl, rfl, rfl, rfl, rfl, trivial⟩
  refine W_loop (fun k l w => ∃ x6 : Int, l = [(0, u1), (3, (sv x2)), (4, v1), (7, v4), (8, (sv x4.2.1)), (9, (.bool x4.2.2)), (10, (.int .i64 x6))] ∧ Below w5.heap.size w5 w ∧ Ctx [] w0 w [Item.own v4 (x4.1 : (List Str)), Item.own v1 (x3.1 : (List Str))] ∧ Q.FnFrames_l1 x3 x4 k x6 = some r2) FUEL ⟨0, rfl, (Below.refl _ _), hC5, hr6⟩ ?_
  clear hr6
  rintro k1 _ w6 ⟨x6, rfl, hB6, hC6, hL1⟩
  cases k1 with
  | zero => rw [Q.FnFrames_l1] at hL1; cases hL1
  | succ k1 =>
   rw [Q.FnFrames_l1] at hL1
   refine W_seq ?_
   refine W_seq_reg ?_
   refine WL_move rfl rfl ?_
   refine WL_move rfl rfl ?_
   refine WL_len Try.underlying25 (hC6.ro 1 rfl) rfl rfl ?_
   refine WL_lss rfl rfl rfl ?_
   refine WL_nil ?_
   refine W_cond rfl (fun hc5 => ?_) (fun hc5 => ?_)
   ·replace hL1 := ite_t hL1 hc5
    refine W_skip ?_
    refine nrm_normal ?_
    refine W_seq ?_
    refine W_block ?_
    refine W_seq ?_
    refine W_drawn 9 rfl hmix (fun w7 hB7 => ?_)
    have hC7 := hC6.grow hB7
    refine WA_tk 0 (by kernel_rfl) rfl rfl (fl_move rfl) ?_
    refine WL_move rfl rfl ?_
    refine WL_nil ?_
    refine WA_tk 1 (by kernel_rfl) rfl rfl (fl_move rfl) ?_
    refine WL_move rfl rfl ?_
    refine WL_nil ?_
    obtain ⟨x7, hx1, hL1⟩ := bind_some hL1
    refine WA_tk 2 (by kernel_rfl) rfl rfl (fl_index Try.underlying25 ty9 (hC7.ro 1 rfl) hx1 rfl rfl) ?_
    refine WL_index Try.underlying25 ty9 (hC7.ro 1 rfl) hx1 rfl rfl rfl (fun b1 o1 h1 => ?_)
    refine WL_nil ?_
    refine WA_tk 4 (by kernel_rfl) rfl rfl (fl_move rfl) ?_
    refine WL_move rfl rfl ?_
    refine WL_nil ?_
    refine WA_tk 5 (by kernel_rfl) rfl rfl (fl_move rfl) ?_
    refine WL_move rfl rfl ?_
    refine WL_nil ?_
    obtain ⟨x8, hx2, hL1⟩ := bind_some hL1
    refine WA_tk 6 (by kernel_rfl) rfl rfl (fl_index Try.underlying25 ty9 (hC7.ro 0 rfl) hx2 rfl rfl) ?_
    refine WL_index Try.underlying25 ty9 (hC7.ro 0 rfl) hx2 rfl rfl rfl (fun b2 o2 h2 => ?_)
    refine WL_nil ?_
    refine WA.sub (l' := [(0, u1), (3, (sv x2)), (4, v1), (7, v4), (8, (sv x4.2.1)), (9, (.bool x4.2.2)), (10, (.int .i64 x6)), (54, (.int .i64 x6)), (55, v1), (56, (.int .i64 (List.length x3.1 : Int))), (57, (.bool (decide (x6 < (List.length x3.1 : Int))))), (60, v1), (61, (.int .i64 x6)), (62, (ptr b1 o1)), (64, v4), (65, (.int .i64 x6)), (66, (ptr b2 o2))]) ?_ ⟨rfl, rfl, rfl, rfl, rfl, rfl, rfl, rfl, rfl, rfl, rfl, rfl, rfl, rfl, rfl, rfl, rfl, trivial⟩
    refine WA_postsE [⟨3, [], fun vs => PW.val (sv x7), []⟩, ⟨7, [], fun vs => PW.val (sv x8), []⟩] [[], []] 1 rfl (by kernel_rfl) (by kernel_rfl) rfl ?_ ?_
    ·refine StepsE_cons rfl ?_ ?_
     ·intro w9 hB8
      refine DepsE_nil ?_
      refine ⟨_, rfl, ?_⟩
      refine WL_load ty9 h1 (Keep.of hB8) rfl rfl (fun v7 h3 => ?_)
      obtain rfl := ro_str h3
      refine WL_nil ?_
      exact FinE_val (Below.refl _ _) rfl rfl ⟨rfl, rfl⟩
     refine StepsE_cons rfl ?_ ?_
     ·intro w9 hB8
      refine DepsE_nil ?_
      refine ⟨_, rfl, ?_⟩
      refine WL_load ty9 h2 (Keep.of hB8) rfl rfl (fun v8 h4 => ?_)
      obtain rfl := ro_str h4
      refine WL_nil ?_
      exact FinE_val (Below.refl _ _) rfl rfl ⟨rfl, rfl⟩
     exact StepsE_nil
    intro w10 hB9
    refine AllE_cons rfl rfl rfl ?_
    rintro _ _ ⟨rfl, rfl⟩
    refine AllE_cons rfl rfl rfl ?_
    rintro _ _ ⟨rfl, rfl⟩
    refine AllE_nil ?_
    intro hn3 hb3
    have hC8 := hC7.grow hB9
    refine WA_tk 8 (by kernel_rfl) rfl rfl (fl_str_neq rfl rfl) ?_
    refine WL_str_neq rfl rfl rfl ?_
    refine WL_nil ?_
    refine WA_done (by kernel_rfl) ?_
    refine nrm_normal ?_
    refine W_cond rfl (fun hc6 => ?_) (fun hc6 => ?_)
    ·replace hL1 := ite_t hL1 hc6
     refine W_seq_reg ?_
     refine WL_assign rfl rfl ?_
     refine WL_nil ?_
     refine W_ret ?_
     refine blk_ret ?_
     refine nrm_ret ?_
     refine nrm_ret ?_
     refine blk_ret ?_
     refine nrm_ret ?_
     refine nrm_ret ?_
     have hq6 := Option.some.inj hL1
     subst hq6
     dsimp only at hF
     have hq7 := Option.some.inj hF
     subst hq7
     refine fn_ret1 rfl rfl ?_
     exact ⟨_, rfl, bool_res hC8 _⟩
    replace hL1 := ite_f hL1 hc6
    refine W_skip ?_
    refine blk_normal ?_
    refine nrm_normal ?_
    refine W_reg ?_
    refine WL_move rfl rfl ?_
    refine WL_add rfl rfl rfl ?_
    refine WL_assign rfl rfl ?_
    refine WL_nil ?_
    refine nrm_sub (l' := [(0, u1), (3, (sv x2)), (4, v1), (7, v4), (8, (sv x4.2.1)), (9, (.bool x4.2.2)), (10, (.int .i64 (w64 (x6 + 1))))]) ⟨rfl, rfl, rfl, rfl, rfl, rfl, rfl, trivial⟩ ?_
    exact ⟨k1, Nat.lt_succ_self _, w64 (x6 + 1), rfl, (((Keep.of hB6).then hB7).then hB9).below, hC8, hL1⟩
   replace hL1 := ite_f hL1 hc5
   refine W_exit ?_
   refine nrm_exit ?_
   refine nrm_exit ?_
   refine blk_exit ?_
   have hq8 := Option.some.inj hL1
   subst hq8
   have hC9 := hC6.h1
   refine nrm_sub (l' := [(0, u1), (3, (sv x2)), (7, v4), (8, (sv x4.2.1)), (9, (.bool x4.2.2))]) ⟨rfl, rfl, rfl, rfl, rfl, trivial⟩ ?_
   exact ⟨rfl, rfl, (Keep.of hB6).below, hC9⟩
 rintro l3 _ w11 hs3 ⟨rfl, rfl, hB10, hC10⟩
 try dsimp only at hF
 refine nrm_sub' hs3 ?_
 clear hs3
 refine W_seq ?_
 refine W_seq_reg ?_
 refine WL_move rfl rfl ?_
 refine WL_nil ?_
 refine W_cond rfl (fun hc7 => ?_) (fun hc7 => ?_)
 ·replace hF := ite_t hF hc7
  refine W_seq_reg ?_
  refine WL_assign rfl rfl ?_
  refine WL_nil ?_
  refine W_seq ?_
  refine W_seq_reg ?_
  refine WL_move rfl rfl ?_
  refine WL_len_str Try.underlying9 rfl rfl ?_
  refine WL_gtr rfl rfl rfl ?_
  refine WL_nil ?_
  obtain ⟨r3, hr7, hF⟩ := bind_some hF
  refine W_norm (fun l w => ∃ x9 : Int, x9 = r3 ∧ l = [(0, u1), (3, (sv x2)), (7, v4), (8, (sv x4.2.1)), (11, (.int .i64 x9))] ∧ Below w11.heap.size w11 w ∧ Ctx [] w0 w [Item.own v4 (x4.1 : (List Str))]) ?_ ?_
  ·refine W_cond rfl (fun hc8 => ?_) (fun hc8 => ?_)
   ·replace hr7 := ite_t hr7 hc8
    refine W_reg ?_
    refine WL_move rfl rfl ?_
    obtain ⟨x10, hr8, hr7⟩ := bind_some hr7
    refine WL_call Try.call8 rfl rfl (c_Q_at a1 u1 (g1.now hC10.keep) 3 x10 hr8) ?_
    intro _ w13 hv9
    obtain ⟨rfl, hB12⟩ := res_int hv9
    have hC12 := hC10.grow hB12
    refine WL_move rfl rfl ?_
    refine WL_len_str Try.underlying9 rfl rfl ?_
    refine WL_add rfl rfl rfl ?_
    obtain ⟨_, hx3, hr7⟩ := bind_some hr7
    refine WL_rem (nz_some hx3) rfl rfl rfl ?_
    refine WL_assign rfl rfl ?_
    refine WL_nil ?_
    have hq9 := Option.some.inj hr7
    subst hq9
    refine nrm_sub (l' := [(0, u1), (3, (sv x2)), (7, v4), (8, (sv x4.2.1)), (11, (.int .i64 (x10.tmod (w64 ((List.length x2 : Int) + 1)))))]) ⟨rfl, rfl, rfl, rfl, rfl, trivial⟩ ?_
    exact ⟨x10.tmod (w64 ((List.length x2 : Int) + 1)), rfl, rfl, (Keep.of hB12).below, hC12⟩
   replace hr7 := ite_f hr7 hc8
   refine W_skip ?_
   have hq10 := Option.some.inj hr7
   subst hq10
   refine nrm_sub (l' := [(0, u1), (3, (sv x2)), (7, v4), (8, (sv x4.2.1)), (11, (.int .i64 0))]) ⟨rfl, rfl, rfl, rfl, rfl, trivial⟩ ?_
   exact ⟨0, rfl, rfl, (Below.refl _ _), hC10⟩
  rintro l4 _ w12 hs4 ⟨x9, rfl, rfl, hB11, hC11⟩
  try dsimp only at hF
  refine nrm_sub' hs4 ?_
  clear hs4
  refine W_seq_reg ?_
  refine WL_move rfl rfl ?_
  refine WL_move rfl rfl ?_
  obtain ⟨x11, hx4, hF⟩ := bind_some hF
  refine WL_slice_str_h Try.underlying9 hx4 rfl rfl rfl ?_
  obtain ⟨x12, hr9, hF⟩ := bind_some hF
  refine WL_call Try.call6 rfl rfl (c_M_SplitFrames x11 x12 hr9) ?_
  rintro _ w14 ⟨hB13, v9, v10, v11, F7, F8, F9, rfl, hv10, hv11, hv12, hn4, hb4⟩
  obtain ⟨rfl, rfl⟩ := val_str hv11
  obtain ⟨rfl, rfl⟩ := val_bool hv12
  have hC13 := hC11.pushL hB13 (Bs := [Item.own v9 x12.1]) (Fs := [F7]) ⟨F7, _, rfl, hv10, rfl⟩ (by simpa using hn4) (fun b h => hb4 b (by simpa using h))
  refine WL_move rfl rfl ?_
  refine WL_extract rfl rfl rfl ?_
  refine WL_extract rfl rfl rfl ?_
  refine WL_extract rfl rfl rfl ?_
  refine WL_assign rfl rfl ?_
  refine WL_assign rfl rfl ?_
  refine WL_assign rfl rfl ?_
  refine WL_nil ?_
  refine W_seq_reg ?_
  refine WL_move rfl rfl ?_
  refine WL_move rfl rfl ?_
  refine WL_move rfl rfl ?_
  obtain ⟨x13, hx5, hF⟩ := bind_some hF
  refine WL_slice_str_l Try.underlying9 hx5 rfl rfl rfl ?_
  obtain ⟨x14, hx6, hF⟩ := bind_some hF
  refine WL_str_add hx6 rfl rfl rfl ?_
  obtain ⟨x15, hr10, hF⟩ := bind_some hF
  refine WL_call Try.call6 rfl rfl (c_M_SplitFrames x14 x15 hr10) ?_
  rintro _ w15 ⟨hB14, v12, v13, v14, F10, F11, F12, rfl, hv13, hv14, hv15, hn5, hb5⟩
  obtain ⟨rfl, rfl⟩ := val_str hv14
  obtain ⟨rfl, rfl⟩ := val_bool hv15
  have hC14 := hC13.pushL hB14 (Bs := [Item.own v12 x15.1]) (Fs := [F10]) ⟨F10, _, rfl, hv13, rfl⟩ (by simpa using hn5) (fun b h => hb5 b (by simpa using h))
  refine WL_move rfl rfl ?_
  refine WL_extract rfl rfl rfl ?_
  refine WL_extract rfl rfl rfl ?_
  refine WL_extract rfl rfl rfl ?_
  refine WL_assign rfl rfl ?_
  refine WL_assign rfl rfl ?_
  refine WL_assign rfl rfl ?_
  refine WL_nil ?_
  obtain ⟨r4, hr11, hF⟩ := bind_some hF
  refine W_cut (fun l w => ∃ x16 : Bool, x16 = r4 ∧ l = [(0, u1), (117, (.bool x16))] ∧ Below w15.heap.size w15 w ∧ Ctx [] w0 w []) ?_ ?_
  ·refine W_reg ?_
   refine WL_move rfl rfl ?_
   refine WL_not rfl rfl ?_
   refine WL_move rfl rfl ?_
   refine WL_fork (fun hc9 => ?_) (fun hc9 => ?_)
   ·replace hr11 := ite_t hr11 hc9
    refine WL_guard_skip rfl rfl (by simp) rfl ?_
    refine WL_guard_skip rfl rfl (by simp) rfl ?_
    refine WL_pick_t rfl rfl rfl ?_
    refine WL_move rfl rfl ?_
    refine WL_guard_skip rfl rfl (by simp) rfl ?_
    refine WL_guard_skip rfl rfl (by simp) rfl ?_
    refine WL_guard_skip rfl rfl (by simp) rfl ?_
    refine WL_pick_t rfl rfl rfl ?_
    refine WL_move rfl rfl ?_
    refine WL_guard_skip rfl rfl (by simp) rfl ?_
    refine WL_guard_skip rfl rfl (by simp) rfl ?_
    refine WL_guard_skip rfl rfl (by simp) rfl ?_
    refine WL_guard_skip rfl rfl (by simp) rfl ?_
    refine WL_guard_skip rfl rfl (by simp) rfl ?_
    refine WL_guard_skip rfl rfl (by simp) rfl ?_
    refine WL_guard_skip rfl rfl (by simp) rfl ?_
    refine WL_guard_skip rfl rfl (by simp) rfl ?_
    refine WL_pick_t rfl rfl rfl ?_
    refine WL_nil ?_
    have hq11 := Option.some.inj hr11
    subst hq11
    have hC16 := hC14.h0
    refine nrm_sub (l' := [(0, u1), (117, (.bool true))]) ⟨rfl, rfl, trivial⟩ ?_
    exact ⟨true, rfl, rfl, (Below.refl _ _), hC16⟩
   replace hr11 := ite_f hr11 hc9
   refine WL_guard rfl rfl ?_
   refine WL_move rfl rfl ?_
   refine WL_guard rfl rfl ?_
   refine WL_not rfl rfl ?_
   refine WL_pick_f rfl rfl rfl ?_
   refine WL_move rfl rfl ?_
   refine WL_fork (fun hc10 => ?_) (fun hc10 => ?_)
   ·replace hr11 := ite_t hr11 hc10
    refine WL_guard_skip rfl rfl (by simp) rfl ?_
    refine WL_guard_skip rfl rfl (by simp) rfl ?_
    refine WL_guard_skip rfl rfl (by simp) rfl ?_
    refine WL_pick_t rfl rfl rfl ?_
    refine WL_move rfl rfl ?_
    refine WL_guard_skip rfl rfl (by simp) rfl ?_
    refine WL_guard_skip rfl rfl (by simp) rfl ?_
    refine WL_guard_skip rfl rfl (by simp) rfl ?_
    refine WL_guard_skip rfl rfl (by simp) rfl ?_
    refine WL_guard_skip rfl rfl (by simp) rfl ?_
    refine WL_guard_skip rfl rfl (by simp) rfl ?_
    refine WL_guard_skip rfl rfl (by simp) rfl ?_
    refine WL_guard_skip rfl rfl (by simp) rfl ?_
    refine WL_pick_t rfl rfl rfl ?_
    refine WL_nil ?_
    have hq12 := Option.some.inj hr11
    subst hq12
    have hC17 := hC14.h0
    refine nrm_sub (l' := [(0, u1), (117, (.bool true))]) ⟨rfl, rfl, trivial⟩ ?_
    exact ⟨true, rfl, rfl, (Below.refl _ _), hC17⟩
   replace hr11 := ite_f hr11 hc10
   refine WL_guard rfl rfl ?_
   refine WL_move rfl rfl ?_
   refine WL_guard rfl rfl ?_
   refine WL_move rfl rfl ?_
   refine WL_guard rfl rfl ?_
   refine WL_str_neq rfl rfl rfl ?_
   refine WL_pick_f rfl rfl rfl ?_
   refine WL_move rfl rfl ?_
   refine WL_fork (fun hc11 => ?_) (fun hc11 => ?_)
   ·replace hr11 := ite_t hr11 hc11
    refine WL_guard_skip rfl rfl (by simp) rfl ?_
    refine WL_guard_skip rfl rfl (by simp) rfl ?_
    refine WL_guard_skip rfl rfl (by simp) rfl ?_
    refine WL_guard_skip rfl rfl (by simp) rfl ?_
    refine WL_guard_skip rfl rfl (by simp) rfl ?_
    refine WL_guard_skip rfl rfl (by simp) rfl ?_
    refine WL_guard_skip rfl rfl (by simp) rfl ?_
    refine WL_guard_skip rfl rfl (by simp) rfl ?_
    refine WL_pick_t rfl rfl rfl ?_
    refine WL_nil ?_
    have hq13 := Option.some.inj hr11
    subst hq13
    have hC18 := hC14.h0
    refine nrm_sub (l' := [(0, u1), (117, (.bool true))]) ⟨rfl, rfl, trivial⟩ ?_
    exact ⟨true, rfl, rfl, (Below.refl _ _), hC18⟩
   replace hr11 := ite_f hr11 hc11
   refine WL_guard rfl rfl ?_
   refine WL_move rfl rfl ?_
   refine WL_guard rfl rfl ?_
   refine WL_len Try.underlying25 (hC14.ro 1 rfl) rfl rfl ?_
   refine WL_guard rfl rfl ?_
   refine WL_move rfl rfl ?_
   refine WL_guard rfl rfl ?_
   refine WL_len Try.underlying25 (hC14.ro 0 rfl) rfl rfl ?_
   refine WL_guard rfl rfl ?_
   refine WL_add rfl rfl rfl ?_
   refine WL_guard rfl rfl ?_
   refine WL_move rfl rfl ?_
   refine WL_guard rfl rfl ?_
   refine WL_len Try.underlying25 (hC14.ro 2 rfl) rfl rfl ?_
   refine WL_guard rfl rfl ?_
   refine WL_neq rfl rfl rfl ?_
   refine WL_pick_f rfl rfl rfl ?_
   refine WL_nil ?_
   have hq14 := Option.some.inj hr11
   subst hq14
   have hC19 := hC14.h0
   refine nrm_sub (l' := [(0, u1), (117, (.bool (!decide ((w64 ((List.length x12.1 : Int) + (List.length x15.1 : Int))) = (List.length x4.1 : Int)))))]) ⟨rfl, rfl, trivial⟩ ?_
   exact ⟨(!decide ((w64 ((List.length x12.1 : Int) + (List.length x15.1 : Int))) = (List.length x4.1 : Int))), rfl, rfl, (Below.refl _ _), hC19⟩
  rintro _ w16 ⟨x16, rfl, rfl, hB15, hC15⟩
  try dsimp only at hF
  refine W_cond rfl (fun hc12 => ?_) (fun hc12 => ?_)
  ·replace hF := ite_t hF hc12
   refine W_seq_reg ?_
   refine WL_assign rfl rfl ?_
   refine WL_nil ?_
   refine W_ret ?_
   refine nrm_ret ?_
   have hq15 := Option.some.inj hF
   subst hq15
   refine fn_ret1 rfl rfl ?_
   exact ⟨_, rfl, bool_res hC15 _⟩
  replace hF := ite_f hF hc12
  refine W_skip ?_
  refine nrm_normal ?_
  refine W_seq_reg ?_
  refine WL_move rfl rfl ?_
  obtain ⟨x17, hr12, hF⟩ := bind_some hF
  refine WL_call Try.call9 rfl rfl (c_S_DrawFrameOf a1 u1 (g1.now hC15.keep) x17 hr12) ?_
  intro _ w17 hv16
  obtain ⟨rfl, hB16⟩ := res_str hv16
  have hC20 := hC15.grow hB16
  refine WL_assign rfl rfl ?_
  refine WL_nil ?_
  refine W_seq_reg ?_
  refine WL_move rfl rfl ?_
  obtain ⟨x18, hr13, hF⟩ := bind_some hF
  refine WL_call Try.call10 rfl rfl (c_M_FrameOf x17 x18 hr13) ?_
  intro _ w18 hv17
  obtain ⟨rfl, hB17⟩ := res_str hv17
  have hC21 := hC20.grow hB17
  refine WL_assign rfl rfl ?_
  refine WL_nil ?_
  refine W_seq ?_
  obtain ⟨r5, hr14, hF⟩ := bind_some hF
  refine W_cut (fun l w => ∃ x19 : Bool, x19 = r5 ∧ l = [(18, (sv x17)), (19, (sv x18)), (142, (.bool x19))] ∧ Below w18.heap.size w18 w ∧ Ctx [] w0 w []) ?_ ?_
  ·refine W_reg ?_
   refine WL_move rfl rfl ?_
   refine WL_move rfl rfl ?_
   obtain ⟨x20, hr15, hr14⟩ := bind_some hr14
   refine WL_call Try.call11 rfl rfl (c_S_FrameOf x17 x20 hr15) ?_
   intro _ w20 hv18
   obtain ⟨rfl, hB19⟩ := res_str hv18
   have hC23 := hC21.grow hB19
   refine WL_str_neq rfl rfl rfl ?_
   refine WL_move rfl rfl ?_
   refine WL_fork (fun hc13 => ?_) (fun hc13 => ?_)
   ·replace hr14 := ite_t hr14 hc13
    refine WL_guard_skip rfl rfl (by simp) rfl ?_
    refine WL_guard_skip rfl rfl (by simp) rfl ?_
    refine WL_guard_skip rfl rfl (by simp) rfl ?_
    refine WL_guard_skip rfl rfl (by simp) rfl ?_
    refine WL_guard_skip rfl rfl (by simp) rfl ?_
    refine WL_pick_t rfl rfl rfl ?_
    refine WL_move rfl rfl ?_
    refine WL_guard_skip rfl rfl (by simp) rfl ?_
    refine WL_guard_skip rfl rfl (by simp) rfl ?_
    refine WL_guard_skip rfl rfl (by simp) rfl ?_
    refine WL_pick_t rfl rfl rfl ?_
    refine WL_move rfl rfl ?_
    refine WL_guard_skip rfl rfl (by simp) rfl ?_
    refine WL_guard_skip rfl rfl (by simp) rfl ?_
    refine WL_guard_skip rfl rfl (by simp) rfl ?_
    refine WL_pick_t rfl rfl rfl ?_
    refine WL_nil ?_
    have hq16 := Option.some.inj hr14
    subst hq16
    refine nrm_sub (l' := [(18, (sv x17)), (19, (sv x18)), (142, (.bool true))]) ⟨rfl, rfl, rfl, trivial⟩ ?_
    exact ⟨true, rfl, rfl, (Keep.of hB19).below, hC23⟩
   replace hr14 := ite_f hr14 hc13
   refine WL_guard rfl rfl ?_
   refine WL_move rfl rfl ?_
   obtain ⟨x21, hr16, hr14⟩ := bind_some hr14
   refine WL_guard rfl rfl ?_
   refine WL_call Try.call12 rfl rfl (c_M_CheckByte x17 x21 hr16) ?_
   intro _ w21 hv19
   obtain ⟨rfl, hB20⟩ := res_int hv19
   have hC24 := hC23.grow hB20
   refine WL_guard rfl rfl ?_
   refine WL_move rfl rfl ?_
   obtain ⟨x22, hr17, hr14⟩ := bind_some hr14
   refine WL_guard rfl rfl ?_
   refine WL_call Try.call13 rfl rfl (c_S_CheckByte x17 x22 hr17) ?_
   intro _ w22 hv20
   obtain ⟨rfl, hB21⟩ := res_int hv20
   have hC25 := hC24.grow hB21
   refine WL_guard rfl rfl ?_
   refine WL_neq rfl rfl rfl ?_
   refine WL_pick_f rfl rfl rfl ?_
   refine WL_move rfl rfl ?_
   refine WL_fork (fun hc14 => ?_) (fun hc14 => ?_)
   ·replace hr14 := ite_t hr14 hc14
    refine WL_guard_skip rfl rfl (by simp) rfl ?_
    refine WL_guard_skip rfl rfl (by simp) rfl ?_
    refine WL_guard_skip rfl rfl (by simp) rfl ?_
    refine WL_pick_t rfl rfl rfl ?_
    refine WL_move rfl rfl ?_
    refine WL_guard_skip rfl rfl (by simp) rfl ?_
    refine WL_guard_skip rfl rfl (by simp) rfl ?_
    refine WL_guard_skip rfl rfl (by simp) rfl ?_
    refine WL_pick_t rfl rfl rfl ?_
    refine WL_nil ?_
    have hq17 := Option.some.inj hr14
    subst hq17
    refine nrm_sub (l' := [(18, (sv x17)), (19, (sv x18)), (142, (.bool true))]) ⟨rfl, rfl, rfl, trivial⟩ ?_
    exact ⟨true, rfl, rfl, (((Keep.of hB19).then hB20).then hB21).below, hC25⟩
   replace hr14 := ite_f hr14 hc14
   refine WL_guard rfl rfl ?_
   refine WL_move rfl rfl ?_
   obtain ⟨x23, hr18, hr14⟩ := bind_some hr14
   refine WL_guard rfl rfl ?_
   refine WL_call Try.call12 rfl rfl (c_M_CheckByte x17 x23 hr18) ?_
   intro _ w23 hv21
   obtain ⟨rfl, hB22⟩ := res_int hv21
   have hC26 := hC25.grow hB22
   refine WL_guard rfl rfl ?_
   refine WL_lss rfl rfl rfl ?_
   refine WL_pick_f rfl rfl rfl ?_
   refine WL_move rfl rfl ?_
   refine WL_fork (fun hc15 => ?_) (fun hc15 => ?_)
   ·replace hr14 := ite_t hr14 hc15
    refine WL_guard_skip rfl rfl (by simp) rfl ?_
    refine WL_guard_skip rfl rfl (by simp) rfl ?_
    refine WL_guard_skip rfl rfl (by simp) rfl ?_
    refine WL_pick_t rfl rfl rfl ?_
    refine WL_nil ?_
    have hq18 := Option.some.inj hr14
    subst hq18
    refine nrm_sub (l' := [(18, (sv x17)), (19, (sv x18)), (142, (.bool true))]) ⟨rfl, rfl, rfl, trivial⟩ ?_
    exact ⟨true, rfl, rfl, ((((Keep.of hB19).then hB20).then hB21).then hB22).below, hC26⟩
   replace hr14 := ite_f hr14 hc15
   refine WL_guard rfl rfl ?_
   refine WL_move rfl rfl ?_
   obtain ⟨x24, hr19, hr14⟩ := bind_some hr14
   refine WL_guard rfl rfl ?_
   refine WL_call Try.call12 rfl rfl (c_M_CheckByte x17 x24 hr19) ?_
   intro _ w24 hv22
   obtain ⟨rfl, hB23⟩ := res_int hv22
   have hC27 := hC26.grow hB23
   refine WL_guard rfl rfl ?_
   refine WL_gtr rfl rfl rfl ?_
   refine WL_pick_f rfl rfl rfl ?_
   refine WL_nil ?_
   have hq19 := Option.some.inj hr14
   subst hq19
   refine nrm_sub (l' := [(18, (sv x17)), (19, (sv x18)), (142, (.bool (decide (250 < x24))))]) ⟨rfl, rfl, rfl, trivial⟩ ?_
   exact ⟨(decide (250 < x24)), rfl, rfl, (((((Keep.of hB19).then hB20).then hB21).then hB22).then hB23).below, hC27⟩
  rintro _ w19 ⟨x19, rfl, rfl, hB18, hC22⟩
  try dsimp only at hF
  refine W_cond rfl (fun hc16 => ?_) (fun hc16 => ?_)
  ·replace hF := ite_t hF hc16
   refine W_seq_reg ?_
   refine WL_assign rfl rfl ?_
   refine WL_nil ?_
   refine W_ret ?_
   refine nrm_ret ?_
   have hq20 := Option.some.inj hF
   subst hq20
   refine fn_ret1 rfl rfl ?_
   exact ⟨_, rfl, bool_res hC22 _⟩
  replace hF := ite_f hF hc16
  refine W_skip ?_
  refine nrm_normal ?_
  refine W_seq ?_
  refine W_seq_reg ?_
  refine WL_move rfl rfl ?_
  refine WL_str_neq rfl rfl rfl ?_
  refine WL_nil ?_
  refine W_cond rfl (fun hc17 => ?_) (fun hc17 => ?_)
  ·replace hF := ite_t hF hc17
   refine W_seq_reg ?_
   refine WL_move rfl rfl ?_
   obtain ⟨x25, hr20, hF⟩ := bind_some hF
   refine WL_call Try.call11 rfl rfl (c_S_FrameOf x17 x25 hr20) ?_
   intro _ w25 hv23
   obtain ⟨rfl, hB24⟩ := res_str hv23
   have hC28 := hC22.grow hB24
   obtain ⟨x26, hr21, hF⟩ := bind_some hF
   refine WL_call Try.call6 rfl rfl (c_M_SplitFrames x25 x26 hr21) ?_
   rintro _ w26 ⟨hB25, v15, v16, v17, F13, F14, F15, rfl, hv24, hv25, hv26, hn6, hb6⟩
   obtain ⟨rfl, rfl⟩ := val_str hv25
   obtain ⟨rfl, rfl⟩ := val_bool hv26
   have hC29 := hC28.pushL hB25 (Bs := [Item.own v15 x26.1]) (Fs := [F13]) ⟨F13, _, rfl, hv24, rfl⟩ (by simpa using hn6) (fun b h => hb6 b (by simpa using h))
   refine WL_move rfl rfl ?_
   refine WL_extract rfl rfl rfl ?_
   refine WL_extract rfl rfl rfl ?_
   refine WL_extract rfl rfl rfl ?_
   refine WL_assign rfl rfl ?_
   refine WL_assign rfl rfl ?_
   refine WL_assign rfl rfl ?_
   refine WL_nil ?_
   obtain ⟨r6, hr22, hF⟩ := bind_some hF
   refine W_cut (fun l w => ∃ x27 : Bool, x27 = r6 ∧ l = [(169, (.bool x27))] ∧ Below w26.heap.size w26 w ∧ Ctx [] w0 w []) ?_ ?_
   ·refine W_reg ?_
    refine WL_move rfl rfl ?_
    refine WL_not rfl rfl ?_
    refine WL_move rfl rfl ?_
    refine WL_fork (fun hc18 => ?_) (fun hc18 => ?_)
    ·replace hr22 := ite_t hr22 hc18
     refine WL_guard_skip rfl rfl (by simp) rfl ?_
     refine WL_guard_skip rfl rfl (by simp) rfl ?_
     refine WL_pick_t rfl rfl rfl ?_
     refine WL_move rfl rfl ?_
     refine WL_guard_skip rfl rfl (by simp) rfl ?_
     refine WL_guard_skip rfl rfl (by simp) rfl ?_
     refine WL_guard_skip rfl rfl (by simp) rfl ?_
     refine WL_pick_t rfl rfl rfl ?_
     refine WL_move rfl rfl ?_
     refine WL_guard_skip rfl rfl (by simp) rfl ?_
     refine WL_guard_skip rfl rfl (by simp) rfl ?_
     refine WL_guard_skip rfl rfl (by simp) rfl ?_
     refine WL_guard_skip rfl rfl (by simp) rfl ?_
     refine WL_guard_skip rfl rfl (by simp) rfl ?_
     refine WL_pick_t rfl rfl rfl ?_
     refine WL_nil ?_
     have hq21 := Option.some.inj hr22
     subst hq21
     have hC31 := hC29.h0
     refine nrm_sub (l' := [(169, (.bool true))]) ⟨rfl, trivial⟩ ?_
     exact ⟨true, rfl, rfl, (Below.refl _ _), hC31⟩
    replace hr22 := ite_f hr22 hc18
    refine WL_guard rfl rfl ?_
    refine WL_move rfl rfl ?_
    refine WL_guard rfl rfl ?_
    refine WL_str_neq rfl rfl rfl ?_
    refine WL_pick_f rfl rfl rfl ?_
    refine WL_move rfl rfl ?_
    refine WL_fork (fun hc19 => ?_) (fun hc19 => ?_)
    ·replace hr22 := ite_t hr22 hc19
     refine WL_guard_skip rfl rfl (by simp) rfl ?_
     refine WL_guard_skip rfl rfl (by simp) rfl ?_
     refine WL_guard_skip rfl rfl (by simp) rfl ?_
     refine WL_pick_t rfl rfl rfl ?_
     refine WL_move rfl rfl ?_
     refine WL_guard_skip rfl rfl (by simp) rfl ?_
     refine WL_guard_skip rfl rfl (by simp) rfl ?_
     refine WL_guard_skip rfl rfl (by simp) rfl ?_
     refine WL_guard_skip rfl rfl (by simp) rfl ?_
     refine WL_guard_skip rfl rfl (by simp) rfl ?_
     refine WL_pick_t rfl rfl rfl ?_
     refine WL_nil ?_
     have hq22 := Option.some.inj hr22
     subst hq22
     have hC32 := hC29.h0
     refine nrm_sub (l' := [(169, (.bool true))]) ⟨rfl, trivial⟩ ?_
     exact ⟨true, rfl, rfl, (Below.refl _ _), hC32⟩
    replace hr22 := ite_f hr22 hc19
    refine WL_guard rfl rfl ?_
    refine WL_move rfl rfl ?_
    refine WL_guard rfl rfl ?_
    refine WL_len Try.underlying25 (hC29.ro 0 rfl) rfl rfl ?_
    refine WL_guard rfl rfl ?_
    refine WL_neq rfl rfl rfl ?_
    refine WL_pick_f rfl rfl rfl ?_
    refine WL_move rfl rfl ?_
    refine WL_fork (fun hc20 => ?_) (fun hc20 => ?_)
    ·replace hr22 := ite_t hr22 hc20
     refine WL_guard_skip rfl rfl (by simp) rfl ?_
     refine WL_guard_skip rfl rfl (by simp) rfl ?_
     refine WL_guard_skip rfl rfl (by simp) rfl ?_
     refine WL_guard_skip rfl rfl (by simp) rfl ?_
     refine WL_guard_skip rfl rfl (by simp) rfl ?_
     refine WL_pick_t rfl rfl rfl ?_
     refine WL_nil ?_
     have hq23 := Option.some.inj hr22
     subst hq23
     have hC33 := hC29.h0
     refine nrm_sub (l' := [(169, (.bool true))]) ⟨rfl, trivial⟩ ?_
     exact ⟨true, rfl, rfl, (Below.refl _ _), hC33⟩
    replace hr22 := ite_f hr22 hc20
    refine WL_guard rfl rfl ?_
    refine WL_move rfl rfl ?_
    obtain ⟨x28, hx7, hr22⟩ := bind_some hr22
    refine WL_guard rfl rfl ?_
    refine WL_index Try.underlying25 ty9 (hC29.ro 0 rfl) hx7 rfl rfl rfl (fun b3 o3 h5 => ?_)
    refine WL_guard rfl rfl ?_
    refine WL_load ty9 h5 (Keep.refl _ _) rfl rfl (fun v18 h6 => ?_)
    obtain rfl := ro_str h6
    refine WL_guard rfl rfl ?_
    refine WL_move rfl rfl ?_
    refine WL_guard rfl rfl ?_
    refine WL_str_neq rfl rfl rfl ?_
    refine WL_pick_f rfl rfl rfl ?_
    refine WL_nil ?_
    have hq24 := Option.some.inj hr22
    subst hq24
    have hC34 := hC29.h0
    refine nrm_sub (l' := [(169, (.bool (!decide (x28 = x17))))]) ⟨rfl, trivial⟩ ?_
    exact ⟨(!decide (x28 = x17)), rfl, rfl, (Below.refl _ _), hC34⟩
   rintro _ w27 ⟨x27, rfl, rfl, hB26, hC30⟩
   try dsimp only at hF
   refine W_cond rfl (fun hc21 => ?_) (fun hc21 => ?_)
   ·replace hF := ite_t hF hc21
    refine W_seq_reg ?_
    refine WL_assign rfl rfl ?_
    refine WL_nil ?_
    refine W_ret ?_
    refine nrm_ret ?_
    have hq25 := Option.some.inj hF
    subst hq25
    refine fn_ret1 rfl rfl ?_
    exact ⟨_, rfl, bool_res hC30 _⟩
   replace hF := ite_f hF hc21
   refine W_skip ?_
   refine nrm_normal ?_
   refine W_seq_reg ?_
   refine WL_assign rfl rfl ?_
   refine WL_nil ?_
   refine W_ret ?_
   have hq26 := Option.some.inj hF
   subst hq26
   refine fn_ret1 rfl rfl ?_
   exact ⟨_, rfl, bool_res hC30 _⟩
  replace hF := ite_f hF hc17
  refine W_skip ?_
  refine nrm_normal ?_
  refine W_seq_reg ?_
  refine WL_assign rfl rfl ?_
  refine WL_nil ?_
  refine W_ret ?_
  have hq27 := Option.some.inj hF
  subst hq27
  refine fn_ret1 rfl rfl ?_
  exact ⟨_, rfl, bool_res hC22 _⟩
 replace hF := ite_f hF hc7
 refine W_skip ?_
 refine nrm_normal ?_
 refine W_seq_reg ?_
 refine WL_move rfl rfl ?_
 obtain ⟨x29, hr23, hF⟩ := bind_some hF
 refine WL_call Try.call9 rfl rfl (c_S_DrawFrameOf a1 u1 (g1.now hC10.keep) x29 hr23) ?_
 intro _ w28 hv27
 obtain ⟨rfl, hB27⟩ := res_str hv27
 have hC35 := hC10.grow hB27
 refine WL_assign rfl rfl ?_
 refine WL_nil ?_
 refine W_seq_reg ?_
 refine WL_move rfl rfl ?_
 obtain ⟨x30, hr24, hF⟩ := bind_some hF
 refine WL_call Try.call10 rfl rfl (c_M_FrameOf x29 x30 hr24) ?_
 intro _ w29 hv28
 obtain ⟨rfl, hB28⟩ := res_str hv28
 have hC36 := hC35.grow hB28
 refine WL_assign rfl rfl ?_
 refine WL_nil ?_
 refine W_seq ?_
 obtain ⟨r7, hr25, hF⟩ := bind_some hF
 refine W_cut (fun l w => ∃ x31 : Bool, x31 = r7 ∧ l = [(18, (sv x29)), (19, (sv x30)), (142, (.bool x31))] ∧ Below w29.heap.size w29 w ∧ Ctx [] w0 w []) ?_ ?_
 ·refine W_reg ?_
  refine WL_move rfl rfl ?_
  refine WL_move rfl rfl ?_
  obtain ⟨x32, hr26, hr25⟩ := bind_some hr25
  refine WL_call Try.call11 rfl rfl (c_S_FrameOf x29 x32 hr26) ?_
  intro _ w31 hv29
  obtain ⟨rfl, hB30⟩ := res_str hv29
  have hC38 := hC36.grow hB30
  refine WL_str_neq rfl rfl rfl ?_
  refine WL_move rfl rfl ?_
  refine WL_fork (fun hc22 => ?_) (fun hc22 => ?_)
  ·replace hr25 := ite_t hr25 hc22
   refine WL_guard_skip rfl rfl (by simp) rfl ?_
   refine WL_guard_skip rfl rfl (by simp) rfl ?_
   refine WL_guard_skip rfl rfl (by simp) rfl ?_
   refine WL_guard_skip rfl rfl (by simp) rfl ?_
   refine WL_guard_skip rfl rfl (by simp) rfl ?_
   refine WL_pick_t rfl rfl rfl ?_
   refine WL_move rfl rfl ?_
   refine WL_guard_skip rfl rfl (by simp) rfl ?_
   refine WL_guard_skip rfl rfl (by simp) rfl ?_
   refine WL_guard_skip rfl rfl (by simp) rfl ?_
   refine WL_pick_t rfl rfl rfl ?_
   refine WL_move rfl rfl ?_
   refine WL_guard_skip rfl rfl (by simp) rfl ?_
   refine WL_guard_skip rfl rfl (by simp) rfl ?_
   refine WL_guard_skip rfl rfl (by simp) rfl ?_
   refine WL_pick_t rfl rfl rfl ?_
   refine WL_nil ?_
   have hq28 := Option.some.inj hr25
   subst hq28
   have hC39 := hC38.h0
   refine nrm_sub (l' := [(18, (sv x29)), (19, (sv x30)), (142, (.bool true))]) ⟨rfl, rfl, rfl, trivial⟩ ?_
   exact ⟨true, rfl, rfl, (Keep.of hB30).below, hC39⟩
  replace hr25 := ite_f hr25 hc22
  refine WL_guard rfl rfl ?_
  refine WL_move rfl rfl ?_
  obtain ⟨x33, hr27, hr25⟩ := bind_some hr25
  refine WL_guard rfl rfl ?_
  refine WL_call Try.call12 rfl rfl (c_M_CheckByte x29 x33 hr27) ?_
  intro _ w32 hv30
  obtain ⟨rfl, hB31⟩ := res_int hv30
  have hC40 := hC38.grow hB31
  refine WL_guard rfl rfl ?_
  refine WL_move rfl rfl ?_
  obtain ⟨x34, hr28, hr25⟩ := bind_some hr25
  refine WL_guard rfl rfl ?_
  refine WL_call Try.call13 rfl rfl (c_S_CheckByte x29 x34 hr28) ?_
  intro _ w33 hv31
  obtain ⟨rfl, hB32⟩ := res_int hv31
  have hC41 := hC40.grow hB32
  refine WL_guard rfl rfl ?_
  refine WL_neq rfl rfl rfl ?_
  refine WL_pick_f rfl rfl rfl ?_
  refine WL_move rfl rfl ?_
  refine WL_fork (fun hc23 => ?_) (fun hc23 => ?_)
  ·replace hr25 := ite_t hr25 hc23
   refine WL_guard_skip rfl rfl (by simp) rfl ?_
   refine WL_guard_skip rfl rfl (by simp) rfl ?_
   refine WL_guard_skip rfl rfl (by simp) rfl ?_
   refine WL_pick_t rfl rfl rfl ?_
   refine WL_move rfl rfl ?_
   refine WL_guard_skip rfl rfl (by simp) rfl ?_
   refine WL_guard_skip rfl rfl (by simp) rfl ?_
   refine WL_guard_skip rfl rfl (by simp) rfl ?_
   refine WL_pick_t rfl rfl rfl ?_
   refine WL_nil ?_
   have hq29 := Option.some.inj hr25
   subst hq29
   have hC42 := hC41.h0
   refine nrm_sub (l' := [(18, (sv x29)), (19, (sv x30)), (142, (.bool true))]) ⟨rfl, rfl, rfl, trivial⟩ ?_
   exact ⟨true, rfl, rfl, (((Keep.of hB30).then hB31).then hB32).below, hC42⟩
  replace hr25 := ite_f hr25 hc23
  refine WL_guard rfl rfl ?_
  refine WL_move rfl rfl ?_
  obtain ⟨x35, hr29, hr25⟩ := bind_some hr25
  refine WL_guard rfl rfl ?_
  refine WL_call Try.call12 rfl rfl (c_M_CheckByte x29 x35 hr29) ?_
  intro _ w34 hv32
  obtain ⟨rfl, hB33⟩ := res_int hv32
  have hC43 := hC41.grow hB33
  refine WL_guard rfl rfl ?_
  refine WL_lss rfl rfl rfl ?_
  refine WL_pick_f rfl rfl rfl ?_
  refine WL_move rfl rfl ?_
  refine WL_fork (fun hc24 => ?_) (fun hc24 => ?_)
  ·replace hr25 := ite_t hr25 hc24
   refine WL_guard_skip rfl rfl (by simp) rfl ?_
   refine WL_guard_skip rfl rfl (by simp) rfl ?_
   refine WL_guard_skip rfl rfl (by simp) rfl ?_
   refine WL_pick_t rfl rfl rfl ?_
   refine WL_nil ?_
   have hq30 := Option.some.inj hr25
   subst hq30
   have hC44 := hC43.h0
   refine nrm_sub (l' := [(18, (sv x29)), (19, (sv x30)), (142, (.bool true))]) ⟨rfl, rfl, rfl, trivial⟩ ?_
   exact ⟨true, rfl, rfl, ((((Keep.of hB30).then hB31).then hB32).then hB33).below, hC44⟩
  replace hr25 := ite_f hr25 hc24
  refine WL_guard rfl rfl ?_
  refine WL_move rfl rfl ?_
  obtain ⟨x36, hr30, hr25⟩ := bind_some hr25
  refine WL_guard rfl rfl ?_
  refine WL_call Try.call12 rfl rfl (c_M_CheckByte x29 x36 hr30) ?_
  intro _ w35 hv33
  obtain ⟨rfl, hB34⟩ := res_int hv33
  have hC45 := hC43.grow hB34
  refine WL_guard rfl rfl ?_
  refine WL_gtr rfl rfl rfl ?_
  refine WL_pick_f rfl rfl rfl ?_
  refine WL_nil ?_
  have hq31 := Option.some.inj hr25
  subst hq31
  have hC46 := hC45.h0
  refine nrm_sub (l' := [(18, (sv x29)), (19, (sv x30)), (142, (.bool (decide (250 < x36))))]) ⟨rfl, rfl, rfl, trivial⟩ ?_
  exact ⟨(decide (250 < x36)), rfl, rfl, (((((Keep.of hB30).then hB31).then hB32).then hB33).then hB34).below, hC46⟩
 rintro _ w30 ⟨x31, rfl, rfl, hB29, hC37⟩
 try dsimp only at hF
 refine W_cond rfl (fun hc25 => ?_) (fun hc25 => ?_)
 ·replace hF := ite_t hF hc25
  refine W_seq_reg ?_
  refine WL_assign rfl rfl ?_
  refine WL_nil ?_
  refine W_ret ?_
  refine nrm_ret ?_
  have hq32 := Option.some.inj hF
  subst hq32
  refine fn_ret1 rfl rfl ?_
  exact ⟨_, rfl, bool_res hC37 _⟩
 replace hF := ite_f hF hc25
 refine W_skip ?_
 refine nrm_normal ?_
 refine W_seq ?_
 refine W_seq_reg ?_
 refine WL_move rfl rfl ?_
 refine WL_str_neq rfl rfl rfl ?_
 refine WL_nil ?_
 refine W_cond rfl (fun hc26 => ?_) (fun hc26 => ?_)
 ·replace hF := ite_t hF hc26
  refine W_seq_reg ?_
  refine WL_move rfl rfl ?_
  obtain ⟨x37, hr31, hF⟩ := bind_some hF
  refine WL_call Try.call11 rfl rfl (c_S_FrameOf x29 x37 hr31) ?_
  intro _ w36 hv34
  obtain ⟨rfl, hB35⟩ := res_str hv34
  have hC47 := hC37.grow hB35
  obtain ⟨x38, hr32, hF⟩ := bind_some hF
  refine WL_call Try.call6 rfl rfl (c_M_SplitFrames x37 x38 hr32) ?_
  rintro _ w37 ⟨hB36, v19, v20, v21, F16, F17, F18, rfl, hv35, hv36, hv37, hn7, hb7⟩
  obtain ⟨rfl, rfl⟩ := val_str hv36
  obtain ⟨rfl, rfl⟩ := val_bool hv37
  have hC48 := hC47.pushL hB36 (Bs := [Item.own v19 x38.1]) (Fs := [F16]) ⟨F16, _, rfl, hv35, rfl⟩ (by simpa using hn7) (fun b h => hb7 b (by simpa using h))
  refine WL_move rfl rfl ?_
  refine WL_extract rfl rfl rfl ?_
  refine WL_extract rfl rfl rfl ?_
  refine WL_extract rfl rfl rfl ?_
  refine WL_assign rfl rfl ?_
  refine WL_assign rfl rfl ?_
  refine WL_assign rfl rfl ?_
  refine WL_nil ?_
  obtain ⟨r8, hr33, hF⟩ := bind_some hF
  refine W_cut (fun l w => ∃ x39 : Bool, x39 = r8 ∧ l = [(169, (.bool x39))] ∧ Below w37.heap.size w37 w ∧ Ctx [] w0 w []) ?_ ?_
  ·refine W_reg ?_
   refine WL_move rfl rfl ?_
   refine WL_not rfl rfl ?_
   refine WL_move rfl rfl ?_
   refine WL_fork (fun hc27 => ?_) (fun hc27 => ?_)
   ·replace hr33 := ite_t hr33 hc27
    refine WL_guard_skip rfl rfl (by simp) rfl ?_
    refine WL_guard_skip rfl rfl (by simp) rfl ?_
    refine WL_pick_t rfl rfl rfl ?_
    refine WL_move rfl rfl ?_
    refine WL_guard_skip rfl rfl (by simp) rfl ?_
    refine WL_guard_skip rfl rfl (by simp) rfl ?_
    refine WL_guard_skip rfl rfl (by simp) rfl ?_
    refine WL_pick_t rfl rfl rfl ?_
    refine WL_move rfl rfl ?_
    refine WL_guard_skip rfl rfl (by simp) rfl ?_
    refine WL_guard_skip rfl rfl (by simp) rfl ?_
    refine WL_guard_skip rfl rfl (by simp) rfl ?_
    refine WL_guard_skip rfl rfl (by simp) rfl ?_
    refine WL_guard_skip rfl rfl (by simp) rfl ?_
    refine WL_pick_t rfl rfl rfl ?_
    refine WL_nil ?_
    have hq33 := Option.some.inj hr33
    subst hq33
    have hC50 := hC48.h0
    refine nrm_sub (l' := [(169, (.bool true))]) ⟨rfl, trivial⟩ ?_
    exact ⟨true, rfl, rfl, (Below.refl _ _), hC50⟩
   replace hr33 := ite_f hr33 hc27
   refine WL_guard rfl rfl ?_
   refine WL_move rfl rfl ?_
   refine WL_guard rfl rfl ?_
   refine WL_str_neq rfl rfl rfl ?_
   refine WL_pick_f rfl rfl rfl ?_
   refine WL_move rfl rfl ?_
   refine WL_fork (fun hc28 => ?_) (fun hc28 => ?_)
   ·replace hr33 := ite_t hr33 hc28
    refine WL_guard_skip rfl rfl (by simp) rfl ?_
    refine WL_guard_skip rfl rfl (by simp) rfl ?_
    refine WL_guard_skip rfl rfl (by simp) rfl ?_
    refine WL_pick_t rfl rfl rfl ?_
    refine WL_move rfl rfl ?_
    refine WL_guard_skip rfl rfl (by simp) rfl ?_
    refine WL_guard_skip rfl rfl (by simp) rfl ?_
    refine WL_guard_skip rfl rfl (by simp) rfl ?_
    refine WL_guard_skip rfl rfl (by simp) rfl ?_
    refine WL_guard_skip rfl rfl (by simp) rfl ?_
    refine WL_pick_t rfl rfl rfl ?_
    refine WL_nil ?_
    have hq34 := Option.some.inj hr33
    subst hq34
    have hC51 := hC48.h0
    refine nrm_sub (l' := [(169, (.bool true))]) ⟨rfl, trivial⟩ ?_
    exact ⟨true, rfl, rfl, (Below.refl _ _), hC51⟩
   replace hr33 := ite_f hr33 hc28
   refine WL_guard rfl rfl ?_
   refine WL_move rfl rfl ?_
   refine WL_guard rfl rfl ?_
   refine WL_len Try.underlying25 (hC48.ro 0 rfl) rfl rfl ?_
   refine WL_guard rfl rfl ?_
   refine WL_neq rfl rfl rfl ?_
   refine WL_pick_f rfl rfl rfl ?_
   refine WL_move rfl rfl ?_
   refine WL_fork (fun hc29 => ?_) (fun hc29 => ?_)
   ·replace hr33 := ite_t hr33 hc29
    refine WL_guard_skip rfl rfl (by simp) rfl ?_
    refine WL_guard_skip rfl rfl (by simp) rfl ?_
    refine WL_guard_skip rfl rfl (by simp) rfl ?_
    refine WL_guard_skip rfl rfl (by simp) rfl ?_
    refine WL_guard_skip rfl rfl (by simp) rfl ?_
    refine WL_pick_t rfl rfl rfl ?_
    refine WL_nil ?_
    have hq35 := Option.some.inj hr33
    subst hq35
    have hC52 := hC48.h0
    refine nrm_sub (l' := [(169, (.bool true))]) ⟨rfl, trivial⟩ ?_
    exact ⟨true, rfl, rfl, (Below.refl _ _), hC52⟩
   replace hr33 := ite_f hr33 hc29
   refine WL_guard rfl rfl ?_
   refine WL_move rfl rfl ?_
   obtain ⟨x40, hx8, hr33⟩ := bind_some hr33
   refine WL_guard rfl rfl ?_
   refine WL_index Try.underlying25 ty9 (hC48.ro 0 rfl) hx8 rfl rfl rfl (fun b4 o4 h7 => ?_)
   refine WL_guard rfl rfl ?_
   refine WL_load ty9 h7 (Keep.refl _ _) rfl rfl (fun v22 h8 => ?_)
   obtain rfl := ro_str h8
   refine WL_guard rfl rfl ?_
   refine WL_move rfl rfl ?_
   refine WL_guard rfl rfl ?_
   refine WL_str_neq rfl rfl rfl ?_
   refine WL_pick_f rfl rfl rfl ?_
   refine WL_nil ?_
   have hq36 := Option.some.inj hr33
   subst hq36
   have hC53 := hC48.h0
   refine nrm_sub (l' := [(169, (.bool (!decide (x40 = x29))))]) ⟨rfl, trivial⟩ ?_
   exact ⟨(!decide (x40 = x29)), rfl, rfl, (Below.refl _ _), hC53⟩
  rintro _ w38 ⟨x39, rfl, rfl, hB37, hC49⟩
  try dsimp only at hF
  refine W_cond rfl (fun hc30 => ?_) (fun hc30 => ?_)
  ·replace hF := ite_t hF hc30
   refine W_seq_reg ?_
   refine WL_assign rfl rfl ?_
   refine WL_nil ?_
   refine W_ret ?_
   refine nrm_ret ?_
   have hq37 := Option.some.inj hF
   subst hq37
   refine fn_ret1 rfl rfl ?_
   exact ⟨_, rfl, bool_res hC49 _⟩
  replace hF := ite_f hF hc30
  refine W_skip ?_
  refine nrm_normal ?_
  refine W_seq_reg ?_
  refine WL_assign rfl rfl ?_
  refine WL_nil ?_
  refine W_ret ?_
  have hq38 := Option.some.inj hF
  subst hq38
  refine fn_ret1 rfl rfl ?_
  exact ⟨_, rfl, bool_res hC49 _⟩
 replace hF := ite_f hF hc26
 refine W_skip ?_
 refine nrm_normal ?_
 refine W_seq_reg ?_
 refine WL_assign rfl rfl ?_
 refine WL_nil ?_
 refine W_ret ?_
 have hq39 := Option.some.inj hF
 subst hq39
 refine fn_ret1 rfl rfl ?_
 exact ⟨_, rfl, bool_res hC37 _⟩

end Go.Gx.Px
