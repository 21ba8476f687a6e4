/- The contracts of the Go functions against the pure functions, printed by program. Conditions: each says them. -/
import Derived.Test.YtpkooeejhbjajaaTy
import Derived.Test.YtpkooeejhbjajaaPure
set_option linter.unusedVariables false
set_option linter.unusedSimpArgs false
set_option maxRecDepth 100000
set_option maxHeartbeats 4000000
namespace Go.Gx.Px
open Go.Proofs Go.RowKit

theorem c_S_l1In {w0 : World} (a1 : Int) (a2 : Int) (a3 : Int) (rr : Bool) (hF : S.l1In a1 a2 a3 = some rr) :
 Calls Try.prog 24 [(.int .i64 a1), (.int .i64 a2), (.int .i64 a3)].toArray w0 fun e w' => ∃ v, e = .returned v ∧ Res w0 rr v w' := by
 refine calls_of_W Try.func24 rfl rfl ?_
 have hC0 := Ctx.start w0
 unfold S.l1In at hF
 refine W_seq_reg ?_
 refine WL_assign rfl rfl ?_
 refine WL_nil ?_
 obtain ⟨r1, hr1, hF⟩ := bind_some hF
 refine W_cut (fun l w => ∃ x1 : Bool, x1 = r1 ∧ l = [(6, (.bool x1))] ∧ Below w0.heap.size w0 w ∧ Ctx [] w0 w []) ?_ ?_
 ·refine W_reg ?_
  refine WL_move rfl rfl ?_
  refine WL_move rfl rfl ?_
  refine WL_geq rfl rfl rfl ?_
  refine WL_move rfl rfl ?_
  refine WL_fork (fun hc1 => ?_) (fun hc1 => ?_)
  ·replace hr1 := ite_t hr1 hc1
   refine WL_guard rfl rfl ?_
   refine WL_move rfl rfl ?_
   refine WL_guard rfl rfl ?_
   refine WL_move rfl rfl ?_
   refine WL_guard rfl rfl ?_
   refine WL_leq rfl rfl rfl ?_
   refine WL_pick_t rfl rfl rfl ?_
   refine WL_assign rfl rfl ?_
   refine WL_nil ?_
   have hq1 := Option.some.inj hr1
   subst hq1
   refine nrm_sub (l' := [(6, (.bool (decide (a1 ≤ a3))))]) ⟨rfl, trivial⟩ ?_
   exact ⟨(decide (a1 ≤ a3)), rfl, rfl, (Below.refl _ _), hC0⟩
  replace hr1 := ite_f hr1 hc1
  refine WL_guard_skip rfl rfl (by simp) rfl ?_
  refine WL_guard_skip rfl rfl (by simp) rfl ?_
  refine WL_guard_skip rfl rfl (by simp) rfl ?_
  refine WL_pick_f rfl rfl rfl ?_
  refine WL_assign rfl rfl ?_
  refine WL_nil ?_
  have hq2 := Option.some.inj hr1
  subst hq2
  refine nrm_sub (l' := [(6, (.bool false))]) ⟨rfl, trivial⟩ ?_
  exact ⟨false, rfl, rfl, (Below.refl _ _), hC0⟩
 rintro _ w1 ⟨x1, rfl, rfl, hB1, hC1⟩
 try dsimp only at hF
 refine W_ret ?_
 have hq3 := Option.some.inj hF
 subst hq3
 refine fn_ret1 rfl rfl ?_
 exact ⟨_, rfl, bool_res hC1 _⟩

theorem c_S_l18Times {w0 : World} (a1 : (List Int)) (u1 : Value) (g1 : RO [] w0 u1 a1) (rr : Bool) (hF : S.l18Times a1 = some rr) :
 Calls Try.prog 44 [u1].toArray w0 fun e w' => ∃ v, e = .returned v ∧ Res w0 rr v w' := by
 refine calls_of_W Try.func44 rfl rfl ?_
 have hC0 := Ctx.start w0
 unfold S.l18Times at hF
 refine W_seq_reg ?_
 refine WL_assign rfl rfl ?_
 refine WL_nil ?_
 refine W_seq ?_
 refine W_seq_reg ?_
 refine WL_assign rfl rfl ?_
 refine WL_nil ?_
 obtain ⟨r1, hr1, hF⟩ := bind_some hF
 refine W_norm (fun l w => .inl () = r1 ∧ l = [(0, u1)] ∧ Below w0.heap.size w0 w ∧ Ctx [] w0 w []) ?_ ?_
 ·refine W_block ?_
  refine W.sub (l' := [(0, u1), (3, (.int .i64 0))]) ?_ ⟨rfl, rfl, trivial⟩
  refine W_loop (fun k l w => ∃ x1 : Int, l = [(0, u1), (3, (.int .i64 x1))] ∧ Below w0.heap.size w0 w ∧ Ctx [] w0 w [] ∧ S.l18Times_l1 a1 k x1 = some r1) FUEL ⟨0, rfl, (Below.refl _ _), hC0, hr1⟩ ?_
  clear hr1
  rintro k1 _ w1 ⟨x1, rfl, hB1, hC1, hL1⟩
  cases k1 with
  | zero => rw [S.l18Times_l1] at hL1; cases hL1
  | succ k1 =>
   rw [S.l18Times_l1] at hL1
   refine W_seq ?_
   refine W_seq_reg ?_
   refine WL_move rfl rfl ?_
   refine WL_move rfl rfl ?_
   refine WL_len Try.underlying26 g1 rfl rfl ?_
   refine WL_lss rfl rfl rfl ?_
   refine WL_nil ?_
   refine W_cond rfl (fun hc1 => ?_) (fun hc1 => ?_)
   ·replace hL1 := ite_t hL1 hc1
    refine W_skip ?_
    refine nrm_normal ?_
    refine W_seq ?_
    refine W_block ?_
    obtain ⟨r2, hr2, hL1⟩ := bind_some hL1
    refine W_cut (fun l w => ∃ x2 : Bool, x2 = r2 ∧ l = [(0, u1), (3, (.int .i64 x1)), (31, (.bool x2))] ∧ Below w1.heap.size w1 w ∧ Ctx [] w0 w []) ?_ ?_
    ·refine W_drawn 22 rfl hmix (fun w3 hB3 => ?_)
     have hC3 := hC1.grow hB3
     refine WA_tk 0 (by kernel_rfl) rfl rfl (fl_move rfl) ?_
     refine WL_move rfl rfl ?_
     refine WL_nil ?_
     refine WA_tk 1 (by kernel_rfl) rfl rfl (fl_move rfl) ?_
     refine WL_move rfl rfl ?_
     refine WL_nil ?_
     obtain ⟨x3, hx1, hr2⟩ := bind_some hr2
     refine WA_tk 2 (by kernel_rfl) rfl rfl (fl_index Try.underlying26 ty3 g1 hx1 rfl rfl) ?_
     refine WL_index Try.underlying26 ty3 g1 hx1 rfl rfl rfl (fun b1 o1 h1 => ?_)
     refine WL_nil ?_
     refine WA_one 3 (by kernel_rfl) rfl ?_
     refine WL_load ty3 h1 hC3.keep rfl rfl (fun v1 h2 => ?_)
     obtain rfl := ro_int h2
     refine WL_nil ?_
     obtain ⟨x4, hr3, hr2⟩ := bind_some hr2
     refine WA_one 4 (by kernel_rfl) rfl ?_
     refine WL_call Try.call24 rfl rfl (c_S_l1In x3 0 10000 x4 hr3) ?_
     intro _ w4 hv1
     obtain ⟨rfl, hB4⟩ := res_bool hv1
     have hC4 := hC3.grow hB4
     refine WL_nil ?_
     refine WA_tk 5 (by kernel_rfl) rfl rfl (fl_not rfl) ?_
     refine WL_not rfl rfl ?_
     refine WL_nil ?_
     refine WA_tk 6 (by kernel_rfl) rfl rfl (fl_move rfl) ?_
     refine WL_move rfl rfl ?_
     refine WL_nil ?_
     refine WA_fork (fun hc2 => ?_) (fun hc2 => ?_)
     ·replace hr2 := ite_t hr2 hc2
      refine WA_sk 7 (by kernel_rfl) rfl rfl rfl rfl (by simp) rfl rfl ?_
      refine WA_sk 8 (by kernel_rfl) rfl rfl rfl rfl (by simp) rfl rfl ?_
      refine WA_sk 9 (by kernel_rfl) rfl rfl rfl rfl (by simp) rfl rfl ?_
      refine WA_sk 10 (by kernel_rfl) rfl rfl rfl rfl (by simp [undef]) rfl rfl ?_
      refine WA_sk 11 (by kernel_rfl) rfl rfl rfl rfl (by simp [undef]) rfl rfl ?_
      refine WA_sk 12 (by kernel_rfl) rfl rfl rfl rfl (by simp [undef]) rfl rfl ?_
      refine WA_sk 13 (by kernel_rfl) rfl rfl rfl rfl (by simp [undef]) rfl rfl ?_
      refine WA_sk 14 (by kernel_rfl) rfl rfl rfl rfl (by simp [undef]) rfl rfl ?_
      refine WA_sk 15 (by kernel_rfl) rfl rfl rfl rfl (by simp [undef]) rfl rfl ?_
      refine WA_sk 16 (by kernel_rfl) rfl rfl rfl rfl (by simp [undef]) rfl rfl ?_
      refine WA_sk 17 (by kernel_rfl) rfl rfl rfl rfl (by simp [undef]) rfl rfl ?_
      refine WA_sk 18 (by kernel_rfl) rfl rfl rfl rfl (by simp [undef]) rfl rfl ?_
      refine WA_sk 19 (by kernel_rfl) rfl rfl rfl rfl (by simp [undef]) rfl rfl ?_
      refine WA_sk 20 (by kernel_rfl) rfl rfl rfl rfl (by simp) rfl rfl ?_
      refine WA_tk 21 (by kernel_rfl) rfl rfl (fl_pick_t rfl rfl) ?_
      refine WL_pick_t rfl rfl rfl ?_
      refine WL_nil ?_
      refine WA_done (by kernel_rfl) ?_
      have hq1 := Option.some.inj hr2
      subst hq1
      refine nrm_sub (l' := [(0, u1), (3, (.int .i64 x1)), (31, (.bool true))]) ⟨rfl, rfl, rfl, trivial⟩ ?_
      exact ⟨true, rfl, rfl, ((Keep.of hB3).then hB4).below, hC4⟩
     replace hr2 := ite_f hr2 hc2
     refine WA_takeG 7 rfl (by kernel_rfl) (by kernel_rfl) (by kernel_rfl) rfl rfl rfl (fl_move rfl) ?_
     refine WL_guard rfl rfl ?_
     refine WL_move rfl rfl ?_
     refine WL_nil ?_
     refine WA_takeG 8 rfl (by kernel_rfl) (by kernel_rfl) (by kernel_rfl) rfl rfl rfl (fl_gtr rfl rfl) ?_
     refine WL_guard rfl rfl ?_
     refine WL_gtr rfl rfl rfl ?_
     refine WL_nil ?_
     refine WA_takeG 9 rfl (by kernel_rfl) (by kernel_rfl) (by kernel_rfl) rfl rfl rfl (fl_move rfl) ?_
     refine WL_guard rfl rfl ?_
     refine WL_move rfl rfl ?_
     refine WL_nil ?_
     refine WA_fork (fun hc3 => ?_) (fun hc3 => ?_)
     ·replace hr2 := ite_t hr2 hc3
      refine WA_takeG 10 rfl (by kernel_rfl) (by kernel_rfl) (by kernel_rfl) rfl rfl rfl (fl_move rfl) ?_
      refine WL_guard rfl rfl ?_
      refine WL_move rfl rfl ?_
      refine WL_nil ?_
      refine WA_takeG 11 rfl (by kernel_rfl) (by kernel_rfl) (by kernel_rfl) rfl rfl rfl (fl_move rfl) ?_
      refine WL_guard rfl rfl ?_
      refine WL_move rfl rfl ?_
      refine WL_nil ?_
      obtain ⟨x5, hx2, hr2⟩ := bind_some hr2
      refine WA_takeG 12 rfl (by kernel_rfl) (by kernel_rfl) (by kernel_rfl) rfl rfl rfl (fl_index Try.underlying26 ty3 g1 hx2 rfl rfl) ?_
      refine WL_guard rfl rfl ?_
      refine WL_index Try.underlying26 ty3 g1 hx2 rfl rfl rfl (fun b2 o2 h3 => ?_)
      refine WL_nil ?_
      refine WA_takeG 14 rfl (by kernel_rfl) (by kernel_rfl) (by kernel_rfl) rfl rfl rfl (fl_move rfl) ?_
      refine WL_guard rfl rfl ?_
      refine WL_move rfl rfl ?_
      refine WL_nil ?_
      refine WA_takeG 15 rfl (by kernel_rfl) (by kernel_rfl) (by kernel_rfl) rfl rfl rfl (fl_move rfl) ?_
      refine WL_guard rfl rfl ?_
      refine WL_move rfl rfl ?_
      refine WL_nil ?_
      refine WA_takeG 16 rfl (by kernel_rfl) (by kernel_rfl) (by kernel_rfl) rfl rfl rfl (fl_sub rfl rfl) ?_
      refine WL_guard rfl rfl ?_
      refine WL_sub rfl rfl rfl ?_
      refine WL_nil ?_
      obtain ⟨x6, hx3, hr2⟩ := bind_some hr2
      refine WA_takeG 17 rfl (by kernel_rfl) (by kernel_rfl) (by kernel_rfl) rfl rfl rfl (fl_index Try.underlying26 ty3 g1 hx3 rfl rfl) ?_
      refine WL_guard rfl rfl ?_
      refine WL_index Try.underlying26 ty3 g1 hx3 rfl rfl rfl (fun b3 o3 h4 => ?_)
      refine WL_nil ?_
      refine WA.sub (l' := [(0, u1), (3, (.int .i64 x1)), (4, (.int .i64 x1)), (5, u1), (6, (.int .i64 (List.length a1 : Int))), (7, (.bool (decide (x1 < (List.length a1 : Int))))), (10, u1), (11, (.int .i64 x1)), (12, (ptr b1 o1)), (13, (.int .i64 x3)), (14, (.bool x4)), (15, (.bool (!x4))), (16, (.bool false)), (17, (.int .i64 x1)), (18, (.bool (decide (0 < x1)))), (19, (.bool true)), (20, u1), (21, (.int .i64 x1)), (22, (ptr b2 o2)), (24, u1), (25, (.int .i64 x1)), (26, (.int .i64 (w64 (x1 - 1)))), (27, (ptr b3 o3))]) ?_ ⟨rfl, rfl, rfl, rfl, rfl, rfl, rfl, rfl, rfl, rfl, rfl, rfl, rfl, rfl, rfl, rfl, rfl, rfl, rfl, rfl, rfl, rfl, rfl, trivial⟩
      refine WA_postsE [⟨13, [], fun vs => PW.val (.int .i64 x5), []⟩, ⟨18, [], fun vs => PW.val (.int .i64 x6), []⟩] [[], []] 3 rfl (by kernel_rfl) (by kernel_rfl) rfl ?_ ?_
      ·refine StepsE_cons rfl ?_ ?_
       ·intro w5 hB5
        refine DepsE_nil ?_
        refine ⟨_, rfl, ?_⟩
        refine WL_guard rfl rfl ?_
        refine WL_load ty3 h3 (hC4.keep.then hB5) rfl rfl (fun v2 h5 => ?_)
        obtain rfl := ro_int h5
        refine WL_nil ?_
        exact FinE_val (Below.refl _ _) rfl rfl ⟨rfl, rfl⟩
       refine StepsE_cons rfl ?_ ?_
       ·intro w5 hB5
        refine DepsE_nil ?_
        refine ⟨_, rfl, ?_⟩
        refine WL_guard rfl rfl ?_
        refine WL_load ty3 h4 (hC4.keep.then hB5) rfl rfl (fun v3 h6 => ?_)
        obtain rfl := ro_int h6
        refine WL_nil ?_
        exact FinE_val (Below.refl _ _) rfl rfl ⟨rfl, rfl⟩
       exact StepsE_nil
      intro w6 hB6
      refine AllE_cons rfl rfl rfl ?_
      rintro _ _ ⟨rfl, rfl⟩
      refine AllE_cons rfl rfl rfl ?_
      rintro _ _ ⟨rfl, rfl⟩
      refine AllE_nil ?_
      intro hn1 hb1
      have hC5 := hC4.grow hB6
      refine WA_takeG 19 rfl (by kernel_rfl) (by kernel_rfl) (by kernel_rfl) rfl rfl rfl (fl_lss rfl rfl) ?_
      refine WL_guard rfl rfl ?_
      refine WL_lss rfl rfl rfl ?_
      refine WL_nil ?_
      refine WA_takeG 20 rfl (by kernel_rfl) (by kernel_rfl) (by kernel_rfl) rfl rfl rfl (fl_pick_t rfl rfl) ?_
      refine WL_guard rfl rfl ?_
      refine WL_pick_t rfl rfl rfl ?_
      refine WL_nil ?_
      refine WA_tk 21 (by kernel_rfl) rfl rfl (fl_pick_f rfl rfl) ?_
      refine WL_pick_f rfl rfl rfl ?_
      refine WL_nil ?_
      refine WA_done (by kernel_rfl) ?_
      have hq2 := Option.some.inj hr2
      subst hq2
      refine nrm_sub (l' := [(0, u1), (3, (.int .i64 x1)), (31, (.bool (decide (x5 < x6))))]) ⟨rfl, rfl, rfl, trivial⟩ ?_
      exact ⟨(decide (x5 < x6)), rfl, rfl, (((Keep.of hB3).then hB4).then hB6).below, hC5⟩
     replace hr2 := ite_f hr2 hc3
     refine WA_sk 10 (by kernel_rfl) rfl rfl rfl rfl (by simp) rfl rfl ?_
     refine WA_sk 11 (by kernel_rfl) rfl rfl rfl rfl (by simp) rfl rfl ?_
     refine WA_sk 12 (by kernel_rfl) rfl rfl rfl rfl (by simp) rfl rfl ?_
     refine WA_sk 13 (by kernel_rfl) rfl rfl rfl rfl (by simp) rfl rfl ?_
     refine WA_sk 14 (by kernel_rfl) rfl rfl rfl rfl (by simp) rfl rfl ?_
     refine WA_sk 15 (by kernel_rfl) rfl rfl rfl rfl (by simp) rfl rfl ?_
     refine WA_sk 16 (by kernel_rfl) rfl rfl rfl rfl (by simp) rfl rfl ?_
     refine WA_sk 17 (by kernel_rfl) rfl rfl rfl rfl (by simp) rfl rfl ?_
     refine WA_sk 18 (by kernel_rfl) rfl rfl rfl rfl (by simp) rfl rfl ?_
     refine WA_sk 19 (by kernel_rfl) rfl rfl rfl rfl (by simp) rfl rfl ?_
     refine WA_takeG 20 rfl (by kernel_rfl) (by kernel_rfl) (by kernel_rfl) rfl rfl rfl (fl_pick_f rfl rfl) ?_
     refine WL_guard rfl rfl ?_
     refine WL_pick_f rfl rfl rfl ?_
     refine WL_nil ?_
     refine WA_tk 21 (by kernel_rfl) rfl rfl (fl_pick_f rfl rfl) ?_
     refine WL_pick_f rfl rfl rfl ?_
     refine WL_nil ?_
     refine WA_done (by kernel_rfl) ?_
     have hq3 := Option.some.inj hr2
     subst hq3
     refine nrm_sub (l' := [(0, u1), (3, (.int .i64 x1)), (31, (.bool false))]) ⟨rfl, rfl, rfl, trivial⟩ ?_
     exact ⟨false, rfl, rfl, ((Keep.of hB3).then hB4).below, hC4⟩
    rintro _ w2 ⟨x2, rfl, rfl, hB2, hC2⟩
    try dsimp only at hL1
    refine W_cond rfl (fun hc4 => ?_) (fun hc4 => ?_)
    ·replace hL1 := ite_t hL1 hc4
     refine W_seq_reg ?_
     refine WL_assign rfl rfl ?_
     refine WL_nil ?_
     refine W_ret ?_
     refine blk_ret ?_
     refine nrm_ret ?_
     refine nrm_ret ?_
     refine blk_ret ?_
     refine nrm_ret ?_
     refine nrm_ret ?_
     have hq4 := Option.some.inj hL1
     subst hq4
     dsimp only at hF
     have hq5 := Option.some.inj hF
     subst hq5
     refine fn_ret1 rfl rfl ?_
     exact ⟨_, rfl, bool_res hC2 _⟩
    replace hL1 := ite_f hL1 hc4
    refine W_skip ?_
    refine blk_normal ?_
    refine nrm_normal ?_
    refine W_reg ?_
    refine WL_move rfl rfl ?_
    refine WL_add rfl rfl rfl ?_
    refine WL_assign rfl rfl ?_
    refine WL_nil ?_
    refine nrm_sub (l' := [(0, u1), (3, (.int .i64 (w64 (x1 + 1))))]) ⟨rfl, rfl, trivial⟩ ?_
    exact ⟨k1, Nat.lt_succ_self _, w64 (x1 + 1), rfl, ((Keep.of hB1).then hB2).below, hC2, hL1⟩
   replace hL1 := ite_f hL1 hc1
   refine W_exit ?_
   refine nrm_exit ?_
   refine nrm_exit ?_
   refine blk_exit ?_
   have hq6 := Option.some.inj hL1
   subst hq6
   refine nrm_sub (l' := [(0, u1)]) ⟨rfl, trivial⟩ ?_
   exact ⟨rfl, rfl, (Keep.of hB1).below, hC1⟩
 rintro l3 _ w7 hs3 ⟨rfl, rfl, hB7, hC6⟩
 try dsimp only at hF
 refine nrm_sub' hs3 ?_
 clear hs3
 refine W_seq_reg ?_
 refine WL_move rfl rfl ?_
 refine WL_len Try.underlying26 g1 rfl rfl ?_
 refine WL_leq rfl rfl rfl ?_
 refine WL_assign rfl rfl ?_
 refine WL_nil ?_
 refine W_ret ?_
 have hq7 := Option.some.inj hF
 subst hq7
 refine fn_ret1 rfl rfl ?_
 exact ⟨_, rfl, bool_res hC6 _⟩

theorem c_S_IsWindow {w0 : World} (a1 : (Int × Int)) (rr : Bool) (hF : S.IsWindow a1 = some rr) :
 Calls Try.prog 45 [(.agg #[(.int .i64 a1.1), (.int .i64 a1.2)])].toArray w0 fun e w' => ∃ v, e = .returned v ∧ Res w0 rr v w' := by
 refine calls_of_W Try.func45 rfl rfl ?_
 have hC0 := Ctx.start w0
 unfold S.IsWindow at hF
 refine W_seq_reg ?_
 refine WL_boxK (cs := [(.int .i64 a1.1), (.int .i64 a1.2)]) hC0 rfl rfl rfl (fun b1 w1 hC1 hB1 hN1 => ?_)
 refine WL_assign rfl rfl ?_
 refine WL_nil ?_
 obtain ⟨r1, hr1, hF⟩ := bind_some hF
 refine W_cut (fun l w => ∃ x1 : Bool, x1 = r1 ∧ l = [(2, (.bool x1))] ∧ Below w1.heap.size w1 w ∧ Ctx [] w0 w []) ?_ ?_
 ·refine W_reg ?_
  refine WL_field Try.underlying49 rfl rfl (fun w => ⟨_, Try.sizeOf3 w⟩) rfl rfl ?_
  refine WL_load_box hC1 0 rfl rfl Try.isAgg3 rfl rfl ?_
  obtain ⟨x2, hr2, hr1⟩ := bind_some hr1
  refine WL_call Try.call24 rfl rfl (c_S_l1In a1.1 1 100 x2 hr2) ?_
  intro _ w3 hv1
  obtain ⟨rfl, hB3⟩ := res_bool hv1
  have hC3 := hC1.grow hB3
  refine WL_move rfl rfl ?_
  refine WL_fork (fun hc1 => ?_) (fun hc1 => ?_)
  ·replace hr1 := ite_t hr1 hc1
   refine WL_guard rfl rfl ?_
   refine WL_field Try.underlying49 rfl rfl (fun w => ⟨_, Try.sizeOf3 w⟩) rfl rfl ?_
   refine WL_guard rfl rfl ?_
   refine WL_load_box hC3 0 rfl rfl Try.isAgg3 rfl rfl ?_
   obtain ⟨x3, hr3, hr1⟩ := bind_some hr1
   refine WL_guard rfl rfl ?_
   refine WL_call Try.call24 rfl rfl (c_S_l1In a1.2 1 99 x3 hr3) ?_
   intro _ w4 hv2
   obtain ⟨rfl, hB4⟩ := res_bool hv2
   have hC4 := hC3.grow hB4
   refine WL_pick_t rfl rfl rfl ?_
   refine WL_assign rfl rfl ?_
   refine WL_nil ?_
   have hq1 := Option.some.inj hr1
   subst hq1
   have hC5 := hC4.h0
   refine nrm_sub (l' := [(2, (.bool x3))]) ⟨rfl, trivial⟩ ?_
   exact ⟨x3, rfl, rfl, ((Keep.of hB3).then hB4).below, hC5⟩
  replace hr1 := ite_f hr1 hc1
  refine WL_guard_skip rfl rfl (by simp) rfl ?_
  refine WL_guard_skip rfl rfl (by simp) rfl ?_
  refine WL_guard_skip rfl rfl (by simp) rfl ?_
  refine WL_pick_f rfl rfl rfl ?_
  refine WL_assign rfl rfl ?_
  refine WL_nil ?_
  have hq2 := Option.some.inj hr1
  subst hq2
  have hC6 := hC3.h0
  refine nrm_sub (l' := [(2, (.bool false))]) ⟨rfl, trivial⟩ ?_
  exact ⟨false, rfl, rfl, (Keep.of hB3).below, hC6⟩
 rintro _ w2 ⟨x1, rfl, rfl, hB2, hC2⟩
 try dsimp only at hF
 refine W_ret ?_
 have hq3 := Option.some.inj hF
 subst hq3
 refine fn_ret1 rfl rfl ?_
 exact ⟨_, rfl, bool_res hC2 _⟩

theorem c_S_CallsIn {w0 : World} (a1 : (List Int)) (u1 : Value) (g1 : RO [] w0 u1 a1) (a2 : Int) (a3 : Int) (rr : Int) (hF : S.CallsIn a1 a2 a3 = some rr) :
 Calls Try.prog 46 [u1, (.int .i64 a2), (.int .i64 a3)].toArray w0 fun e w' => ∃ v, e = .returned v ∧ Res w0 rr v w' := by
 refine calls_of_W Try.func46 rfl rfl ?_
 have hC0 := Ctx.start w0
 unfold S.CallsIn at hF
 refine W_seq_reg ?_
 refine WL_assign rfl rfl ?_
 refine WL_nil ?_
 refine W_seq_reg ?_
 refine WL_assign rfl rfl ?_
 refine WL_nil ?_
 refine W_seq ?_
 refine W_seq_reg ?_
 refine WL_assign rfl rfl ?_
 refine WL_nil ?_
 obtain ⟨r1, hr1, hF⟩ := bind_some hF
 refine W_norm (fun l w => ∃ x3 : Int, x3 = r1 ∧ l = [(7, (.int .i64 x3))] ∧ Below w0.heap.size w0 w ∧ Ctx [] w0 w []) ?_ ?_
 ·refine W_block ?_
  refine W.sub (l' := [(0, u1), (1, (.int .i64 a2)), (2, (.int .i64 a3)), (7, (.int .i64 0)), (8, (.int .i64 0))]) ?_ ⟨rfl, rfl, rfl, rfl, rfl, trivial⟩
  refine W_loop (fun k l w => ∃ x1 : Int, ∃ x2 : Int, l = [(0, u1), (1, (.int .i64 a2)), (2, (.int .i64 a3)), (7, (.int .i64 x1)), (8, (.int .i64 x2))] ∧ Below w0.heap.size w0 w ∧ Ctx [] w0 w [] ∧ S.CallsIn_l1 a1 a2 a3 k x1 x2 = some r1) FUEL ⟨0, 0, rfl, (Below.refl _ _), hC0, hr1⟩ ?_
  clear hr1
  rintro k1 _ w1 ⟨x1, x2, rfl, hB1, hC1, hL1⟩
  cases k1 with
  | zero => rw [S.CallsIn_l1] at hL1; cases hL1
  | succ k1 =>
   rw [S.CallsIn_l1] at hL1
   refine W_seq ?_
   refine W_seq_reg ?_
   refine WL_move rfl rfl ?_
   refine WL_move rfl rfl ?_
   refine WL_len Try.underlying26 g1 rfl rfl ?_
   refine WL_lss rfl rfl rfl ?_
   refine WL_nil ?_
   refine W_cond rfl (fun hc1 => ?_) (fun hc1 => ?_)
   ·replace hL1 := ite_t hL1 hc1
    refine W_skip ?_
    refine nrm_normal ?_
    refine W_seq ?_
    refine W_block ?_
    obtain ⟨r2, hr2, hL1⟩ := bind_some hL1
    refine W_cut (fun l w => ∃ x4 : Bool, x4 = r2 ∧ l = [(0, u1), (1, (.int .i64 a2)), (2, (.int .i64 a3)), (7, (.int .i64 x1)), (8, (.int .i64 x2)), (41, (.bool x4))] ∧ Below w1.heap.size w1 w ∧ Ctx [] w0 w []) ?_ ?_
    ·refine W_reg ?_
     refine WL_move rfl rfl ?_
     refine WL_move rfl rfl ?_
     obtain ⟨x5, hx1, hr2⟩ := bind_some hr2
     refine WL_index Try.underlying26 ty3 g1 hx1 rfl rfl rfl (fun b1 o1 h1 => ?_)
     refine WL_load ty3 h1 hC1.keep rfl rfl (fun v1 h2 => ?_)
     obtain rfl := ro_int h2
     refine WL_move rfl rfl ?_
     refine WL_geq rfl rfl rfl ?_
     refine WL_move rfl rfl ?_
     refine WL_fork (fun hc2 => ?_) (fun hc2 => ?_)
     ·replace hr2 := ite_t hr2 hc2
      refine WL_guard rfl rfl ?_
      refine WL_move rfl rfl ?_
      refine WL_guard rfl rfl ?_
      refine WL_move rfl rfl ?_
      obtain ⟨x6, hx2, hr2⟩ := bind_some hr2
      refine WL_guard rfl rfl ?_
      refine WL_index Try.underlying26 ty3 g1 hx2 rfl rfl rfl (fun b2 o2 h3 => ?_)
      refine WL_guard rfl rfl ?_
      refine WL_load ty3 h3 hC1.keep rfl rfl (fun v2 h4 => ?_)
      obtain rfl := ro_int h4
      refine WL_guard rfl rfl ?_
      refine WL_move rfl rfl ?_
      refine WL_guard rfl rfl ?_
      refine WL_sub rfl rfl rfl ?_
      refine WL_guard rfl rfl ?_
      refine WL_move rfl rfl ?_
      refine WL_guard rfl rfl ?_
      refine WL_lss rfl rfl rfl ?_
      refine WL_pick_t rfl rfl rfl ?_
      refine WL_move rfl rfl ?_
      refine WL_fork (fun hc3 => ?_) (fun hc3 => ?_)
      ·replace hr2 := ite_t hr2 hc3
       refine WL_guard rfl rfl ?_
       refine WL_move rfl rfl ?_
       refine WL_guard rfl rfl ?_
       refine WL_move rfl rfl ?_
       obtain ⟨x7, hx3, hr2⟩ := bind_some hr2
       refine WL_guard rfl rfl ?_
       refine WL_index Try.underlying26 ty3 g1 hx3 rfl rfl rfl (fun b3 o3 h5 => ?_)
       refine WL_guard rfl rfl ?_
       refine WL_load ty3 h5 hC1.keep rfl rfl (fun v3 h6 => ?_)
       obtain rfl := ro_int h6
       refine WL_guard rfl rfl ?_
       refine WL_geq rfl rfl rfl ?_
       refine WL_pick_t rfl rfl rfl ?_
       refine WL_move rfl rfl ?_
       refine WL_fork (fun hc4 => ?_) (fun hc4 => ?_)
       ·replace hr2 := ite_t hr2 hc4
        refine WL_guard rfl rfl ?_
        refine WL_move rfl rfl ?_
        refine WL_guard rfl rfl ?_
        refine WL_geq rfl rfl rfl ?_
        refine WL_pick_t rfl rfl rfl ?_
        refine WL_nil ?_
        have hq1 := Option.some.inj hr2
        subst hq1
        refine nrm_sub (l' := [(0, u1), (1, (.int .i64 a2)), (2, (.int .i64 a3)), (7, (.int .i64 x1)), (8, (.int .i64 x2)), (41, (.bool (decide (0 ≤ a2))))]) ⟨rfl, rfl, rfl, rfl, rfl, rfl, trivial⟩ ?_
        exact ⟨(decide (0 ≤ a2)), rfl, rfl, (Below.refl _ _), hC1⟩
       replace hr2 := ite_f hr2 hc4
       refine WL_guard_skip rfl rfl (by simp) rfl ?_
       refine WL_guard_skip rfl rfl (by simp) rfl ?_
       refine WL_pick_f rfl rfl rfl ?_
       refine WL_nil ?_
       have hq2 := Option.some.inj hr2
       subst hq2
       refine nrm_sub (l' := [(0, u1), (1, (.int .i64 a2)), (2, (.int .i64 a3)), (7, (.int .i64 x1)), (8, (.int .i64 x2)), (41, (.bool false))]) ⟨rfl, rfl, rfl, rfl, rfl, rfl, trivial⟩ ?_
       exact ⟨false, rfl, rfl, (Below.refl _ _), hC1⟩
      replace hr2 := ite_f hr2 hc3
      refine WL_guard_skip rfl rfl (by simp) rfl ?_
      refine WL_guard_skip rfl rfl (by simp) rfl ?_
      refine WL_guard_skip rfl rfl (by simp) rfl ?_
      refine WL_guard_skip rfl rfl (by simp) rfl ?_
      refine WL_guard_skip rfl rfl (by simp) rfl ?_
      refine WL_pick_f rfl rfl rfl ?_
      refine WL_move rfl rfl ?_
      refine WL_guard_skip rfl rfl (by simp) rfl ?_
      refine WL_guard_skip rfl rfl (by simp) rfl ?_
      refine WL_pick_f rfl rfl rfl ?_
      refine WL_nil ?_
      have hq3 := Option.some.inj hr2
      subst hq3
      refine nrm_sub (l' := [(0, u1), (1, (.int .i64 a2)), (2, (.int .i64 a3)), (7, (.int .i64 x1)), (8, (.int .i64 x2)), (41, (.bool false))]) ⟨rfl, rfl, rfl, rfl, rfl, rfl, trivial⟩ ?_
      exact ⟨false, rfl, rfl, (Below.refl _ _), hC1⟩
     replace hr2 := ite_f hr2 hc2
     refine WL_guard_skip rfl rfl (by simp) rfl ?_
     refine WL_guard_skip rfl rfl (by simp) rfl ?_
     refine WL_guard_skip rfl rfl (by simp) rfl ?_
     refine WL_guard_skip rfl rfl (by simp) rfl ?_
     refine WL_guard_skip rfl rfl (by simp) rfl ?_
     refine WL_guard_skip rfl rfl (by simp) rfl ?_
     refine WL_guard_skip rfl rfl (by simp) rfl ?_
     refine WL_guard_skip rfl rfl (by simp) rfl ?_
     refine WL_pick_f rfl rfl rfl ?_
     refine WL_move rfl rfl ?_
     refine WL_guard_skip rfl rfl (by simp) rfl ?_
     refine WL_guard_skip rfl rfl (by simp) rfl ?_
     refine WL_guard_skip rfl rfl (by simp) rfl ?_
     refine WL_guard_skip rfl rfl (by simp) rfl ?_
     refine WL_guard_skip rfl rfl (by simp) rfl ?_
     refine WL_pick_f rfl rfl rfl ?_
     refine WL_move rfl rfl ?_
     refine WL_guard_skip rfl rfl (by simp) rfl ?_
     refine WL_guard_skip rfl rfl (by simp) rfl ?_
     refine WL_pick_f rfl rfl rfl ?_
     refine WL_nil ?_
     have hq4 := Option.some.inj hr2
     subst hq4
     refine nrm_sub (l' := [(0, u1), (1, (.int .i64 a2)), (2, (.int .i64 a3)), (7, (.int .i64 x1)), (8, (.int .i64 x2)), (41, (.bool false))]) ⟨rfl, rfl, rfl, rfl, rfl, rfl, trivial⟩ ?_
     exact ⟨false, rfl, rfl, (Below.refl _ _), hC1⟩
    rintro _ w2 ⟨x4, rfl, rfl, hB2, hC2⟩
    try dsimp only at hL1
    obtain ⟨r3, hr3, hL1⟩ := bind_some hL1
    refine W_norm (fun l w => ∃ x8 : Int, x8 = r3 ∧ l = [(0, u1), (1, (.int .i64 a2)), (2, (.int .i64 a3)), (7, (.int .i64 x8)), (8, (.int .i64 x2))] ∧ Below w2.heap.size w2 w ∧ Ctx [] w0 w []) ?_ ?_
    ·refine W_cond rfl (fun hc5 => ?_) (fun hc5 => ?_)
     ·replace hr3 := ite_t hr3 hc5
      refine W_reg ?_
      refine WL_move rfl rfl ?_
      refine WL_add rfl rfl rfl ?_
      refine WL_assign rfl rfl ?_
      refine WL_nil ?_
      have hq5 := Option.some.inj hr3
      subst hq5
      refine nrm_sub (l' := [(0, u1), (1, (.int .i64 a2)), (2, (.int .i64 a3)), (7, (.int .i64 (w64 (x1 + 1)))), (8, (.int .i64 x2))]) ⟨rfl, rfl, rfl, rfl, rfl, trivial⟩ ?_
      exact ⟨w64 (x1 + 1), rfl, rfl, (Below.refl _ _), hC2⟩
     replace hr3 := ite_f hr3 hc5
     refine W_skip ?_
     have hq6 := Option.some.inj hr3
     subst hq6
     refine nrm_sub (l' := [(0, u1), (1, (.int .i64 a2)), (2, (.int .i64 a3)), (7, (.int .i64 x1)), (8, (.int .i64 x2))]) ⟨rfl, rfl, rfl, rfl, rfl, trivial⟩ ?_
     exact ⟨x1, rfl, rfl, (Below.refl _ _), hC2⟩
    rintro l3 _ w3 hs3 ⟨x8, rfl, rfl, hB3, hC3⟩
    try dsimp only at hL1
    refine blk_normal ?_
    refine nrm_sub' hs3 ?_
    clear hs3
    refine W_reg ?_
    refine WL_move rfl rfl ?_
    refine WL_add rfl rfl rfl ?_
    refine WL_assign rfl rfl ?_
    refine WL_nil ?_
    refine nrm_sub (l' := [(0, u1), (1, (.int .i64 a2)), (2, (.int .i64 a3)), (7, (.int .i64 x8)), (8, (.int .i64 (w64 (x2 + 1))))]) ⟨rfl, rfl, rfl, rfl, rfl, trivial⟩ ?_
    exact ⟨k1, Nat.lt_succ_self _, x8, w64 (x2 + 1), rfl, (((Keep.of hB1).then hB2).then hB3).below, hC3, hL1⟩
   replace hL1 := ite_f hL1 hc1
   refine W_exit ?_
   refine nrm_exit ?_
   refine nrm_exit ?_
   refine blk_exit ?_
   have hq7 := Option.some.inj hL1
   subst hq7
   refine nrm_sub (l' := [(7, (.int .i64 x1))]) ⟨rfl, trivial⟩ ?_
   exact ⟨x1, rfl, rfl, (Keep.of hB1).below, hC1⟩
 rintro l4 _ w4 hs4 ⟨x3, rfl, rfl, hB4, hC4⟩
 try dsimp only at hF
 refine nrm_sub' hs4 ?_
 clear hs4
 refine W_seq_reg ?_
 refine WL_move rfl rfl ?_
 refine WL_assign rfl rfl ?_
 refine WL_nil ?_
 refine W_ret ?_
 have hq8 := Option.some.inj hF
 subst hq8
 refine fn_ret1 rfl rfl ?_
 exact ⟨_, rfl, int_res hC4 _⟩

theorem c_S_IsKept {w0 : World} (a1 : (List Int)) (u1 : Value) (g1 : RO [] w0 u1 a1) (a2 : (Int × Int)) (rr : Bool) (hF : S.IsKept a1 a2 = some rr) :
 Calls Try.prog 37 [u1, (.agg #[(.int .i64 a2.1), (.int .i64 a2.2)])].toArray w0 fun e w' => ∃ v, e = .returned v ∧ Res w0 rr v w' := by
 refine calls_of_W Try.func37 rfl rfl ?_
 have hC0 := Ctx.start w0
 unfold S.IsKept at hF
 refine W_seq_reg ?_
 refine WL_boxK (cs := [(.int .i64 a2.1), (.int .i64 a2.2)]) hC0 rfl rfl rfl (fun b1 w1 hC1 hB1 hN1 => ?_)
 refine WL_assign rfl rfl ?_
 refine WL_nil ?_
 refine W_seq ?_
 obtain ⟨r1, hr1, hF⟩ := bind_some hF
 refine W_cut (fun l w => ∃ x1 : Bool, x1 = r1 ∧ l = [(0, u1), (3, (ptr b1 0)), (13, (.bool x1))] ∧ Below w1.heap.size w1 w ∧ Ctx [] w0 w [Item.box b1 [(.int .i64 a2.1), (.int .i64 a2.2)]]) ?_ ?_
 ·refine W_reg ?_
  refine WL_move rfl rfl ?_
  obtain ⟨x2, hr2, hr1⟩ := bind_some hr1
  refine WL_call Try.call44 rfl rfl (c_S_l18Times a1 u1 (g1.now hC1.keep) x2 hr2) ?_
  intro _ w3 hv1
  obtain ⟨rfl, hB3⟩ := res_bool hv1
  have hC3 := hC1.grow hB3
  refine WL_not rfl rfl ?_
  refine WL_move rfl rfl ?_
  refine WL_fork (fun hc1 => ?_) (fun hc1 => ?_)
  ·replace hr1 := ite_t hr1 hc1
   refine WL_guard_skip rfl rfl (by simp) rfl ?_
   refine WL_guard_skip rfl rfl (by simp) rfl ?_
   refine WL_guard_skip rfl rfl (by simp) rfl ?_
   refine WL_pick_t rfl rfl rfl ?_
   refine WL_nil ?_
   have hq1 := Option.some.inj hr1
   subst hq1
   refine nrm_sub (l' := [(0, u1), (3, (ptr b1 0)), (13, (.bool true))]) ⟨rfl, rfl, rfl, trivial⟩ ?_
   exact ⟨true, rfl, rfl, (Keep.of hB3).below, hC3⟩
  replace hr1 := ite_f hr1 hc1
  refine WL_guard rfl rfl ?_
  refine WL_load_box_agg [(.int .i64 a2.1), (.int .i64 a2.2)] hC3 0 rfl rfl rfl Try.isAgg49 Try.sizeOf49 rfl rfl ?_
  obtain ⟨x3, hr3, hr1⟩ := bind_some hr1
  refine WL_guard rfl rfl ?_
  refine WL_call Try.call45 rfl rfl (c_S_IsWindow (a2.1, a2.2) x3 hr3) ?_
  intro _ w4 hv2
  obtain ⟨rfl, hB4⟩ := res_bool hv2
  have hC4 := hC3.grow hB4
  refine WL_guard rfl rfl ?_
  refine WL_not rfl rfl ?_
  refine WL_pick_f rfl rfl rfl ?_
  refine WL_nil ?_
  have hq2 := Option.some.inj hr1
  subst hq2
  refine nrm_sub (l' := [(0, u1), (3, (ptr b1 0)), (13, (.bool (!x3)))]) ⟨rfl, rfl, rfl, trivial⟩ ?_
  exact ⟨(!x3), rfl, rfl, ((Keep.of hB3).then hB4).below, hC4⟩
 rintro _ w2 ⟨x1, rfl, rfl, hB2, hC2⟩
 try dsimp only at hF
 refine W_cond rfl (fun hc2 => ?_) (fun hc2 => ?_)
 ·replace hF := ite_t hF hc2
  refine W_seq_reg ?_
  refine WL_assign rfl rfl ?_
  refine WL_nil ?_
  refine W_ret ?_
  refine nrm_ret ?_
  have hq3 := Option.some.inj hF
  subst hq3
  refine fn_ret1 rfl rfl ?_
  exact ⟨_, rfl, bool_res hC2 _⟩
 replace hF := ite_f hF hc2
 refine W_skip ?_
 refine nrm_normal ?_
 refine W_seq ?_
 refine W_seq_reg ?_
 refine WL_assign rfl rfl ?_
 refine WL_nil ?_
 obtain ⟨r2, hr4, hF⟩ := bind_some hF
 refine W_norm (fun l w => .inl () = r2 ∧ l = [] ∧ Below w2.heap.size w2 w ∧ Ctx [] w0 w []) ?_ ?_
 ·refine W_block ?_
  refine W.sub (l' := [(0, u1), (3, (ptr b1 0)), (5, (.int .i64 0))]) ?_ ⟨rfl, rfl, rfl, trivial⟩
  refine W_loop (fun k l w => ∃ x4 : Int, l = [(0, u1), (3, (ptr b1 0)), (5, (.int .i64 x4))] ∧ Below w2.heap.size w2 w ∧ Ctx [] w0 w [Item.box b1 [(.int .i64 a2.1), (.int .i64 a2.2)]] ∧ S.IsKept_l1 a1 a2 k x4 = some r2) FUEL ⟨0, rfl, (Below.refl _ _), hC2, hr4⟩ ?_
  clear hr4
  rintro k1 _ w5 ⟨x4, rfl, hB5, hC5, hL1⟩
  cases k1 with
  | zero => rw [S.IsKept_l1] at hL1; cases hL1
  | succ k1 =>
   rw [S.IsKept_l1] at hL1
   refine W_seq ?_
   refine W_seq_reg ?_
   refine WL_move rfl rfl ?_
   refine WL_move rfl rfl ?_
   refine WL_len Try.underlying26 g1 rfl rfl ?_
   refine WL_lss rfl rfl rfl ?_
   refine WL_nil ?_
   refine W_cond rfl (fun hc3 => ?_) (fun hc3 => ?_)
   ·replace hL1 := ite_t hL1 hc3
    refine W_skip ?_
    refine nrm_normal ?_
    refine W_seq ?_
    refine W_block ?_
    refine W_seq ?_
    refine W_drawn 11 rfl hmix (fun w6 hB6 => ?_)
    have hC6 := hC5.grow hB6
    refine WA_tk 0 (by kernel_rfl) rfl rfl (fl_move rfl) ?_
    refine WL_move rfl rfl ?_
    refine WL_nil ?_
    refine WA_tk 1 (by kernel_rfl) rfl rfl (fl_move rfl) ?_
    refine WL_move rfl rfl ?_
    refine WL_nil ?_
    refine WA_tk 2 (by kernel_rfl) rfl rfl (fl_move rfl) ?_
    refine WL_move rfl rfl ?_
    refine WL_nil ?_
    obtain ⟨x5, hx1, hL1⟩ := bind_some hL1
    refine WA_tk 3 (by kernel_rfl) rfl rfl (fl_index Try.underlying26 ty3 g1 hx1 rfl rfl) ?_
    refine WL_index Try.underlying26 ty3 g1 hx1 rfl rfl rfl (fun b2 o1 h1 => ?_)
    refine WL_nil ?_
    refine WA_tk 5 (by kernel_rfl) rfl rfl (fl_field Try.underlying49 rfl rfl (fun w => ⟨_, Try.sizeOf3 w⟩) rfl) ?_
    refine WL_field Try.underlying49 rfl rfl (fun w => ⟨_, Try.sizeOf3 w⟩) rfl rfl ?_
    refine WL_nil ?_
    refine WA_tk 8 (by kernel_rfl) rfl rfl (fl_field Try.underlying49 rfl rfl (fun w => ⟨_, Try.sizeOf3 w⟩) rfl) ?_
    refine WL_field Try.underlying49 rfl rfl (fun w => ⟨_, Try.sizeOf3 w⟩) rfl rfl ?_
    refine WL_nil ?_
    obtain ⟨x6, hr5, hL1⟩ := bind_some hL1
    refine WA.sub (l' := [(0, u1), (3, (ptr b1 0)), (5, (.int .i64 x4)), (14, (.int .i64 x4)), (15, u1), (16, (.int .i64 (List.length a1 : Int))), (17, (.bool (decide (x4 < (List.length a1 : Int))))), (20, u1), (21, u1), (22, (.int .i64 x4)), (23, (ptr b2 o1)), (25, (ptr b1 0)), (28, (ptr b1 1))]) ?_ ⟨rfl, rfl, rfl, rfl, rfl, rfl, rfl, rfl, rfl, rfl, rfl, rfl, rfl, trivial⟩
    refine WA_postsE [⟨4, [], fun vs => PW.val (.int .i64 x5), []⟩, ⟨6, [], fun vs => PW.val (.int .i64 a2.1), []⟩, ⟨7, [], fun vs => PW.val (.int .i64 x6), []⟩, ⟨9, [], fun vs => PW.val (.int .i64 a2.2), []⟩] [[], [], [4, 6], []] 1 rfl (by kernel_rfl) (by kernel_rfl) rfl ?_ ?_
    ·refine StepsE_cons rfl ?_ ?_
     ·intro w9 hB8
      refine DepsE_nil ?_
      refine ⟨_, rfl, ?_⟩
      refine WL_load ty3 h1 (hC6.keep.then hB8) rfl rfl (fun v1 h2 => ?_)
      obtain rfl := ro_int h2
      refine WL_nil ?_
      exact FinE_val (Below.refl _ _) rfl rfl ⟨rfl, rfl⟩
     refine StepsE_cons rfl ?_ ?_
     ·intro w9 hB8
      refine DepsE_nil ?_
      refine ⟨_, rfl, ?_⟩
      refine WL_load_box (hC6.grow hB8) 0 rfl rfl Try.isAgg3 rfl rfl ?_
      refine WL_nil ?_
      exact FinE_val (Below.refl _ _) rfl rfl ⟨rfl, rfl⟩
     refine StepsE_cons rfl ?_ ?_
     ·intro w9 hB8
      refine DepsE_cons rfl rfl rfl ?_
      rintro _ _ ⟨rfl, rfl⟩ _
      refine DepsE_cons rfl rfl rfl ?_
      rintro _ _ ⟨rfl, rfl⟩ _
      refine DepsE_nil ?_
      refine ⟨_, rfl, ?_⟩
      refine WL_call Try.call46 rfl rfl (c_S_CallsIn a1 u1 (g1.now (hC6.keep.then hB8)) x5 a2.1 x6 hr5) ?_
      intro _ w7 hv3
      obtain ⟨rfl, hB7⟩ := res_int hv3
      refine WL_nil ?_
      exact FinE_val hB7 rfl rfl ⟨rfl, rfl⟩
     refine StepsE_cons rfl ?_ ?_
     ·intro w9 hB8
      refine DepsE_nil ?_
      refine ⟨_, rfl, ?_⟩
      refine WL_load_box (hC6.grow hB8) 0 rfl rfl Try.isAgg3 rfl rfl ?_
      refine WL_nil ?_
      exact FinE_val (Below.refl _ _) rfl rfl ⟨rfl, rfl⟩
     exact StepsE_nil
    intro w10 hB9
    refine AllE_cons rfl rfl rfl ?_
    rintro _ _ ⟨rfl, rfl⟩
    refine AllE_cons rfl rfl rfl ?_
    rintro _ _ ⟨rfl, rfl⟩
    refine AllE_cons rfl rfl rfl ?_
    rintro _ _ ⟨rfl, rfl⟩
    refine AllE_cons rfl rfl rfl ?_
    rintro _ _ ⟨rfl, rfl⟩
    refine AllE_nil ?_
    intro hn1 hb1
    have hC7 := hC6.grow hB9
    refine WA_tk 10 (by kernel_rfl) rfl rfl (fl_gtr rfl rfl) ?_
    refine WL_gtr rfl rfl rfl ?_
    refine WL_nil ?_
    refine WA_done (by kernel_rfl) ?_
    refine nrm_normal ?_
    refine W_cond rfl (fun hc4 => ?_) (fun hc4 => ?_)
    ·replace hL1 := ite_t hL1 hc4
     refine W_seq_reg ?_
     refine WL_assign rfl rfl ?_
     refine WL_nil ?_
     refine W_ret ?_
     refine blk_ret ?_
     refine nrm_ret ?_
     refine nrm_ret ?_
     refine blk_ret ?_
     refine nrm_ret ?_
     refine nrm_ret ?_
     have hq4 := Option.some.inj hL1
     subst hq4
     dsimp only at hF
     have hq5 := Option.some.inj hF
     subst hq5
     refine fn_ret1 rfl rfl ?_
     exact ⟨_, rfl, bool_res hC7 _⟩
    replace hL1 := ite_f hL1 hc4
    refine W_skip ?_
    refine blk_normal ?_
    refine nrm_normal ?_
    refine W_reg ?_
    refine WL_move rfl rfl ?_
    refine WL_add rfl rfl rfl ?_
    refine WL_assign rfl rfl ?_
    refine WL_nil ?_
    refine nrm_sub (l' := [(0, u1), (3, (ptr b1 0)), (5, (.int .i64 (w64 (x4 + 1))))]) ⟨rfl, rfl, rfl, trivial⟩ ?_
    exact ⟨k1, Nat.lt_succ_self _, w64 (x4 + 1), rfl, (((Keep.of hB5).then hB6).then hB9).below, hC7, hL1⟩
   replace hL1 := ite_f hL1 hc3
   refine W_exit ?_
   refine nrm_exit ?_
   refine nrm_exit ?_
   refine blk_exit ?_
   have hq6 := Option.some.inj hL1
   subst hq6
   have hC8 := hC5.h0
   refine nrm_sub (l' := []) trivial ?_
   exact ⟨rfl, rfl, (Keep.of hB5).below, hC8⟩
 rintro l3 _ w11 hs3 ⟨rfl, rfl, hB10, hC9⟩
 try dsimp only at hF
 refine nrm_sub' hs3 ?_
 clear hs3
 refine W_seq_reg ?_
 refine WL_assign rfl rfl ?_
 refine WL_nil ?_
 refine W_ret ?_
 have hq7 := Option.some.inj hF
 subst hq7
 refine fn_ret1 rfl rfl ?_
 exact ⟨_, rfl, bool_res hC9 _⟩

theorem c_S_NextTime {w0 : World} (a1 : (List Int)) (u1 : Value) (g1 : RO [] w0 u1 a1) (a2 : (Int × Int)) (a3 : Int) (rr : (Int × Bool)) (hF : S.NextTime a1 a2 a3 = some rr) :
 Calls Try.prog 25 [u1, (.agg #[(.int .i64 a2.1), (.int .i64 a2.2)]), (.int .i64 a3)].toArray w0 fun e w' => ∃ v, e = .returned v ∧ Res2 w0 rr.1 rr.2 v w' := by
 refine calls_of_W Try.func25 rfl rfl ?_
 have hC0 := Ctx.start w0
 unfold S.NextTime at hF
 refine W_seq_reg ?_
 refine WL_boxK (cs := [(.int .i64 a2.1), (.int .i64 a2.2)]) hC0 rfl rfl rfl (fun b1 w1 hC1 hB1 hN1 => ?_)
 refine WL_assign rfl rfl ?_
 refine WL_assign rfl rfl ?_
 refine WL_nil ?_
 refine W_seq ?_
 obtain ⟨r1, hr1, hF⟩ := bind_some hF
 refine W_cut (fun l w => ∃ x1 : Bool, x1 = r1 ∧ l = [(0, u1), (2, (.int .i64 a3)), (4, (ptr b1 0)), (17, (.bool x1))] ∧ Below w1.heap.size w1 w ∧ Ctx [] w0 w [Item.box b1 [(.int .i64 a2.1), (.int .i64 a2.2)]]) ?_ ?_
 ·refine W_reg ?_
  refine WL_move rfl rfl ?_
  refine WL_load_box_agg [(.int .i64 a2.1), (.int .i64 a2.2)] hC1 0 rfl rfl rfl Try.isAgg49 Try.sizeOf49 rfl rfl ?_
  obtain ⟨x2, hr2, hr1⟩ := bind_some hr1
  refine WL_call Try.call37 rfl rfl (c_S_IsKept a1 u1 (g1.now hC1.keep) (a2.1, a2.2) x2 hr2) ?_
  intro _ w3 hv1
  obtain ⟨rfl, hB3⟩ := res_bool hv1
  have hC3 := hC1.grow hB3
  refine WL_not rfl rfl ?_
  refine WL_move rfl rfl ?_
  refine WL_fork (fun hc1 => ?_) (fun hc1 => ?_)
  ·replace hr1 := ite_t hr1 hc1
   refine WL_guard_skip rfl rfl (by simp) rfl ?_
   refine WL_guard_skip rfl rfl (by simp) rfl ?_
   refine WL_guard_skip rfl rfl (by simp) rfl ?_
   refine WL_pick_t rfl rfl rfl ?_
   refine WL_nil ?_
   have hq1 := Option.some.inj hr1
   subst hq1
   refine nrm_sub (l' := [(0, u1), (2, (.int .i64 a3)), (4, (ptr b1 0)), (17, (.bool true))]) ⟨rfl, rfl, rfl, rfl, trivial⟩ ?_
   exact ⟨true, rfl, rfl, (Keep.of hB3).below, hC3⟩
  replace hr1 := ite_f hr1 hc1
  refine WL_guard rfl rfl ?_
  refine WL_move rfl rfl ?_
  obtain ⟨x3, hr3, hr1⟩ := bind_some hr1
  refine WL_guard rfl rfl ?_
  refine WL_call Try.call24 rfl rfl (c_S_l1In a3 0 10000 x3 hr3) ?_
  intro _ w4 hv2
  obtain ⟨rfl, hB4⟩ := res_bool hv2
  have hC4 := hC3.grow hB4
  refine WL_guard rfl rfl ?_
  refine WL_not rfl rfl ?_
  refine WL_pick_f rfl rfl rfl ?_
  refine WL_nil ?_
  have hq2 := Option.some.inj hr1
  subst hq2
  refine nrm_sub (l' := [(0, u1), (2, (.int .i64 a3)), (4, (ptr b1 0)), (17, (.bool (!x3)))]) ⟨rfl, rfl, rfl, rfl, trivial⟩ ?_
  exact ⟨(!x3), rfl, rfl, ((Keep.of hB3).then hB4).below, hC4⟩
 rintro _ w2 ⟨x1, rfl, rfl, hB2, hC2⟩
 try dsimp only at hF
 refine W_cond rfl (fun hc2 => ?_) (fun hc2 => ?_)
 ·replace hF := ite_t hF hc2
  refine W_seq_reg ?_
  refine WL_assign rfl rfl ?_
  refine WL_assign rfl rfl ?_
  refine WL_nil ?_
  refine W_ret ?_
  refine nrm_ret ?_
  have hq3 := Option.some.inj hF
  subst hq3
  refine fn_ret2 rfl rfl rfl ?_
  have hC5 := hC2.triv (bool_val (false))
  have hC6 := hC5.triv (int_val (0))
  exact ⟨_, rfl, res2_of hC6⟩
 replace hF := ite_f hF hc2
 refine W_skip ?_
 refine nrm_normal ?_
 refine W_seq_reg ?_
 refine WL_move rfl rfl ?_
 refine WL_assign rfl rfl ?_
 refine WL_nil ?_
 refine W_seq ?_
 refine W_seq_reg ?_
 refine WL_move rfl rfl ?_
 refine WL_len Try.underlying26 g1 rfl rfl ?_
 refine WL_gtr rfl rfl rfl ?_
 refine WL_nil ?_
 obtain ⟨r2, hr4, hF⟩ := bind_some hF
 refine W_norm (fun l w => ∃ x4 : Int, x4 = r2 ∧ l = [(0, u1), (4, (ptr b1 0)), (8, (.int .i64 x4))] ∧ Below w2.heap.size w2 w ∧ Ctx [] w0 w [Item.box b1 [(.int .i64 a2.1), (.int .i64 a2.2)]]) ?_ ?_
 ·refine W_cond rfl (fun hc3 => ?_) (fun hc3 => ?_)
  ·replace hr4 := ite_t hr4 hc3
   refine W_reg ?_
   refine WL_move rfl rfl ?_
   refine WL_move rfl rfl ?_
   refine WL_move rfl rfl ?_
   refine WL_len Try.underlying26 g1 rfl rfl ?_
   refine WL_sub rfl rfl rfl ?_
   obtain ⟨x5, hx1, hr4⟩ := bind_some hr4
   refine WL_index Try.underlying26 ty3 g1 hx1 rfl rfl rfl (fun b2 o1 h1 => ?_)
   refine WL_load ty3 h1 hC2.keep rfl rfl (fun v1 h2 => ?_)
   obtain rfl := ro_int h2
   refine WL_max rfl rfl rfl ?_
   refine WL_assign rfl rfl ?_
   refine WL_nil ?_
   have hq4 := Option.some.inj hr4
   subst hq4
   refine nrm_sub (l' := [(0, u1), (4, (ptr b1 0)), (8, (.int .i64 (if x5 > a3 then x5 else a3)))]) ⟨rfl, rfl, rfl, trivial⟩ ?_
   exact ⟨if x5 > a3 then x5 else a3, rfl, rfl, (Below.refl _ _), hC2⟩
  replace hr4 := ite_f hr4 hc3
  refine W_skip ?_
  have hq5 := Option.some.inj hr4
  subst hq5
  refine nrm_sub (l' := [(0, u1), (4, (ptr b1 0)), (8, (.int .i64 a3))]) ⟨rfl, rfl, rfl, trivial⟩ ?_
  exact ⟨a3, rfl, rfl, (Below.refl _ _), hC2⟩
 rintro l2 _ w5 hs2 ⟨x4, rfl, rfl, hB5, hC7⟩
 try dsimp only at hF
 refine nrm_sub' hs2 ?_
 clear hs2
 refine W_seq ?_
 refine W_seq_reg ?_
 refine WL_move rfl rfl ?_
 refine WL_len Try.underlying26 g1 rfl rfl ?_
 refine WL_field Try.underlying49 rfl rfl (fun w => ⟨_, Try.sizeOf3 w⟩) rfl rfl ?_
 refine WL_load_box hC7 0 rfl rfl Try.isAgg3 rfl rfl ?_
 refine WL_geq rfl rfl rfl ?_
 refine WL_nil ?_
 obtain ⟨r3, hr5, hF⟩ := bind_some hF
 refine W_norm (fun l w => ∃ x6 : Int, x6 = r3 ∧ l = [(8, (.int .i64 x6))] ∧ Below w5.heap.size w5 w ∧ Ctx [] w0 w []) ?_ ?_
 ·refine W_cond rfl (fun hc4 => ?_) (fun hc4 => ?_)
  ·replace hr5 := ite_t hr5 hc4
   refine W_drawn 14 rfl hmix (fun w7 hB7 => ?_)
   have hC9 := hC7.grow hB7
   refine WA_tk 0 (by kernel_rfl) rfl rfl (fl_move rfl) ?_
   refine WL_move rfl rfl ?_
   refine WL_nil ?_
   refine WA_tk 1 (by kernel_rfl) rfl rfl (fl_move rfl) ?_
   refine WL_move rfl rfl ?_
   refine WL_nil ?_
   refine WA_tk 2 (by kernel_rfl) rfl rfl (fl_move rfl) ?_
   refine WL_move rfl rfl ?_
   refine WL_nil ?_
   refine WA_tk 3 (by kernel_rfl) rfl rfl (fl_len Try.underlying26 g1 rfl) ?_
   refine WL_len Try.underlying26 g1 rfl rfl ?_
   refine WL_nil ?_
   refine WA_tk 4 (by kernel_rfl) rfl rfl (fl_field Try.underlying49 rfl rfl (fun w => ⟨_, Try.sizeOf3 w⟩) rfl) ?_
   refine WL_field Try.underlying49 rfl rfl (fun w => ⟨_, Try.sizeOf3 w⟩) rfl rfl ?_
   refine WL_nil ?_
   refine WA_tk 9 (by kernel_rfl) rfl rfl (fl_field Try.underlying49 rfl rfl (fun w => ⟨_, Try.sizeOf3 w⟩) rfl) ?_
   refine WL_field Try.underlying49 rfl rfl (fun w => ⟨_, Try.sizeOf3 w⟩) rfl rfl ?_
   refine WL_nil ?_
   obtain ⟨x7, hx2, hr5⟩ := bind_some hr5
   refine WA.sub (l' := [(0, u1), (4, (ptr b1 0)), (8, (.int .i64 x4)), (30, u1), (31, (.int .i64 (List.length a1 : Int))), (32, (ptr b1 1)), (33, (.int .i64 a2.2)), (34, (.bool (decide (a2.2 ≤ (List.length a1 : Int))))), (35, (.int .i64 x4)), (36, u1), (37, u1), (38, (.int .i64 (List.length a1 : Int))), (39, (ptr b1 1)), (44, (ptr b1 0))]) ?_ ⟨rfl, rfl, rfl, rfl, rfl, rfl, rfl, rfl, rfl, rfl, rfl, rfl, rfl, rfl, trivial⟩
   refine WA_postsE [⟨5, [], fun vs => PW.val (.int .i64 a2.2), []⟩, ⟨6, [], fun vs => PW.val (.int .i64 (w64 ((List.length a1 : Int) - a2.2))), []⟩, ⟨7, [], fun vs => PW.at [] w0 x7, []⟩, ⟨8, [], fun vs => PW.val (.int .i64 x7), []⟩, ⟨10, [], fun vs => PW.val (.int .i64 a2.1), []⟩] [[], [5], [6], [7], []] 3 rfl (by kernel_rfl) (by kernel_rfl) rfl ?_ ?_
   ·refine StepsE_cons rfl ?_ ?_
    ·intro w9 hB8
     refine DepsE_nil ?_
     refine ⟨_, rfl, ?_⟩
     refine WL_load_box (hC9.grow hB8) 0 rfl rfl Try.isAgg3 rfl rfl ?_
     refine WL_nil ?_
     exact FinE_val (Below.refl _ _) rfl rfl ⟨rfl, rfl⟩
    refine StepsE_cons rfl ?_ ?_
    ·intro w9 hB8
     refine DepsE_cons rfl rfl rfl ?_
     rintro _ _ ⟨rfl, rfl⟩ _
     refine DepsE_nil ?_
     refine ⟨_, rfl, ?_⟩
     refine WL_sub rfl rfl rfl ?_
     refine WL_nil ?_
     exact FinE_val (Below.refl _ _) rfl rfl ⟨rfl, rfl⟩
    refine StepsE_cons rfl ?_ ?_
    ·intro w9 hB8
     refine DepsE_cons rfl rfl rfl ?_
     rintro _ _ ⟨rfl, rfl⟩ _
     refine DepsE_nil ?_
     refine ⟨_, rfl, ?_⟩
     refine WL_index Try.underlying26 ty3 g1 hx2 rfl rfl rfl (fun b3 o2 h3 => ?_)
     refine WL_nil ?_
     exact FinE_val (Below.refl _ _) rfl rfl ⟨rfl, _, _, rfl, h3⟩
    refine StepsE_cons rfl ?_ ?_
    ·intro w9 hB8
     refine DepsE_cons rfl rfl rfl ?_
     rintro _ _ ⟨rfl, b3, o2, rfl, h3⟩ _
     refine DepsE_nil ?_
     refine ⟨_, rfl, ?_⟩
     refine WL_load ty3 h3 (hC9.keep.then hB8) rfl rfl (fun v2 h4 => ?_)
     obtain rfl := ro_int h4
     refine WL_nil ?_
     exact FinE_val (Below.refl _ _) rfl rfl ⟨rfl, rfl⟩
    refine StepsE_cons rfl ?_ ?_
    ·intro w9 hB8
     refine DepsE_nil ?_
     refine ⟨_, rfl, ?_⟩
     refine WL_load_box (hC9.grow hB8) 0 rfl rfl Try.isAgg3 rfl rfl ?_
     refine WL_nil ?_
     exact FinE_val (Below.refl _ _) rfl rfl ⟨rfl, rfl⟩
    exact StepsE_nil
   intro w10 hB9
   refine AllE_cons rfl rfl rfl ?_
   rintro _ _ ⟨rfl, rfl⟩
   refine AllE_cons rfl rfl rfl ?_
   rintro _ _ ⟨rfl, rfl⟩
   refine AllE_cons rfl rfl rfl ?_
   rintro _ _ ⟨rfl, b3, o2, rfl, h3⟩
   refine AllE_cons rfl rfl rfl ?_
   rintro _ _ ⟨rfl, rfl⟩
   refine AllE_cons rfl rfl rfl ?_
   rintro _ _ ⟨rfl, rfl⟩
   refine AllE_nil ?_
   intro hn1 hb1
   have hC10 := hC9.grow hB9
   refine WA_tk 11 (by kernel_rfl) rfl rfl (fl_add rfl rfl) ?_
   refine WL_add rfl rfl rfl ?_
   refine WL_nil ?_
   refine WA_tk 12 (by kernel_rfl) rfl rfl (fl_max rfl rfl) ?_
   refine WL_max rfl rfl rfl ?_
   refine WL_nil ?_
   refine WA_tk 13 (by kernel_rfl) rfl rfl (fl_assign rfl) ?_
   refine WL_assign rfl rfl ?_
   refine WL_nil ?_
   refine WA_done (by kernel_rfl) ?_
   have hq6 := Option.some.inj hr5
   subst hq6
   have hC11 := hC10.h0
   refine nrm_sub (l' := [(8, (.int .i64 (if (w64 (x7 + a2.1)) > x4 then w64 (x7 + a2.1) else x4)))]) ⟨rfl, trivial⟩ ?_
   exact ⟨if (w64 (x7 + a2.1)) > x4 then w64 (x7 + a2.1) else x4, rfl, rfl, ((Keep.of hB7).then hB9).below, hC11⟩
  replace hr5 := ite_f hr5 hc4
  refine W_skip ?_
  have hq7 := Option.some.inj hr5
  subst hq7
  have hC12 := hC7.h0
  refine nrm_sub (l' := [(8, (.int .i64 x4))]) ⟨rfl, trivial⟩ ?_
  exact ⟨x4, rfl, rfl, (Below.refl _ _), hC12⟩
 rintro l3 _ w6 hs3 ⟨x6, rfl, rfl, hB6, hC8⟩
 try dsimp only at hF
 refine nrm_sub' hs3 ?_
 clear hs3
 refine W_seq ?_
 refine W_seq_reg ?_
 refine WL_move rfl rfl ?_
 refine WL_gtr rfl rfl rfl ?_
 refine WL_nil ?_
 refine W_cond rfl (fun hc5 => ?_) (fun hc5 => ?_)
 ·replace hF := ite_t hF hc5
  refine W_seq_reg ?_
  refine WL_assign rfl rfl ?_
  refine WL_assign rfl rfl ?_
  refine WL_nil ?_
  refine W_ret ?_
  refine nrm_ret ?_
  have hq8 := Option.some.inj hF
  subst hq8
  refine fn_ret2 rfl rfl rfl ?_
  have hC13 := hC8.triv (bool_val (false))
  have hC14 := hC13.triv (int_val (0))
  exact ⟨_, rfl, res2_of hC14⟩
 replace hF := ite_f hF hc5
 refine W_skip ?_
 refine nrm_normal ?_
 refine W_seq_reg ?_
 refine WL_move rfl rfl ?_
 refine WL_assign rfl rfl ?_
 refine WL_assign rfl rfl ?_
 refine WL_nil ?_
 refine W_ret ?_
 have hq9 := Option.some.inj hF
 subst hq9
 refine fn_ret2 rfl rfl rfl ?_
 have hC15 := hC8.triv (bool_val (true))
 have hC16 := hC15.triv (int_val (x6))
 exact ⟨_, rfl, res2_of hC16⟩

theorem c_S_ScheduleLog {w0 : World} (a1 : (List (Int × (List Int) × Int × Int × Int))) (u1 : Value) (g1 : RO [] w0 u1 a1) (a2 : (List (Int × (List Int)))) (u2 : Value) (g2 : RO [] w0 u2 a2) (a3 : Int) (a4 : Int) (rr : ((List Int) × Bool)) (hF : S.ScheduleLog a1 a2 a3 a4 = some rr) :
 Calls Try.prog 7 [u1, u2, (.int .i64 a3), (.int .i64 a4)].toArray w0 fun e w' => ∃ v, e = .returned v ∧ Res2 w0 rr.1 rr.2 v w' := by
 refine calls_of_W Try.func7 rfl rfl ?_
 have hC0 := Ctx.start w0
 unfold S.ScheduleLog at hF
 refine W_seq_reg ?_
 refine WL_assign rfl rfl ?_
 refine WL_assign rfl rfl ?_
 refine WL_nil ?_
 refine W_seq_reg ?_
 refine WL_buildSlice (vs := []) hC0 Try.underlying26 ty3 rfl rfl rfl rfl (by simp) rfl rfl (fun b1 w1 hC1 hB1 => ?_)
 have hC2 := hC1.row0 (α := Int)
 have hC3 := hC2.front 1 rfl
 dsimp only [List.eraseIdx, List.cons_append, List.nil_append, List.append_nil] at hC3
 have hC4 : Ctx [] w0 w1 (Item.own (.slice (some ⟨b1, 0, none⟩) 0 0) (([] : List Int) : List Int) :: []) := hC3.rowOwn (by simp [maxLen])
 refine WL_assign rfl rfl ?_
 refine WL_nil ?_
 refine W_seq ?_
 obtain ⟨r1, hr1, hF⟩ := bind_some hF
 refine W_cut (fun l w => ∃ x1 : Bool, x1 = r1 ∧ l = [(0, u1), (1, u2), (2, (.int .i64 a3)), (3, (.int .i64 a4)), (10, (.slice (some ⟨b1, 0, none⟩) 0 0)), (30, (.bool x1))] ∧ Below w1.heap.size w1 w ∧ Ctx [] w0 w [Item.own (.slice (some ⟨b1, 0, none⟩) 0 0) (([] : List Int) : (List Int))]) ?_ ?_
 ·refine W_reg ?_
  refine WL_move rfl rfl ?_
  obtain ⟨x2, hr2, hr1⟩ := bind_some hr1
  refine WL_call Try.call24 rfl rfl (c_S_l1In a3 1 100 x2 hr2) ?_
  intro _ w3 hv1
  obtain ⟨rfl, hB3⟩ := res_bool hv1
  have hC6 := hC4.grow hB3
  refine WL_not rfl rfl ?_
  refine WL_move rfl rfl ?_
  refine WL_fork (fun hc1 => ?_) (fun hc1 => ?_)
  ·replace hr1 := ite_t hr1 hc1
   refine WL_guard_skip rfl rfl (by simp) rfl ?_
   refine WL_guard_skip rfl rfl (by simp) rfl ?_
   refine WL_guard_skip rfl rfl (by simp) rfl ?_
   refine WL_pick_t rfl rfl rfl ?_
   refine WL_move rfl rfl ?_
   refine WL_guard_skip rfl rfl (by simp) rfl ?_
   refine WL_guard_skip rfl rfl (by simp) rfl ?_
   refine WL_guard_skip rfl rfl (by simp) rfl ?_
   refine WL_pick_t rfl rfl rfl ?_
   refine WL_nil ?_
   have hq1 := Option.some.inj hr1
   subst hq1
   refine nrm_sub (l' := [(0, u1), (1, u2), (2, (.int .i64 a3)), (3, (.int .i64 a4)), (10, (.slice (some ⟨b1, 0, none⟩) 0 0)), (30, (.bool true))]) ⟨rfl, rfl, rfl, rfl, rfl, rfl, trivial⟩ ?_
   exact ⟨true, rfl, rfl, (Keep.of hB3).below, hC6⟩
  replace hr1 := ite_f hr1 hc1
  refine WL_guard rfl rfl ?_
  refine WL_move rfl rfl ?_
  obtain ⟨x3, hr3, hr1⟩ := bind_some hr1
  refine WL_guard rfl rfl ?_
  refine WL_call Try.call24 rfl rfl (c_S_l1In a4 0 10000 x3 hr3) ?_
  intro _ w4 hv2
  obtain ⟨rfl, hB4⟩ := res_bool hv2
  have hC7 := hC6.grow hB4
  refine WL_guard rfl rfl ?_
  refine WL_not rfl rfl ?_
  refine WL_pick_f rfl rfl rfl ?_
  refine WL_move rfl rfl ?_
  refine WL_fork (fun hc2 => ?_) (fun hc2 => ?_)
  ·replace hr1 := ite_t hr1 hc2
   refine WL_guard_skip rfl rfl (by simp) rfl ?_
   refine WL_guard_skip rfl rfl (by simp) rfl ?_
   refine WL_guard_skip rfl rfl (by simp) rfl ?_
   refine WL_pick_t rfl rfl rfl ?_
   refine WL_nil ?_
   have hq2 := Option.some.inj hr1
   subst hq2
   refine nrm_sub (l' := [(0, u1), (1, u2), (2, (.int .i64 a3)), (3, (.int .i64 a4)), (10, (.slice (some ⟨b1, 0, none⟩) 0 0)), (30, (.bool true))]) ⟨rfl, rfl, rfl, rfl, rfl, rfl, trivial⟩ ?_
   exact ⟨true, rfl, rfl, ((Keep.of hB3).then hB4).below, hC7⟩
  replace hr1 := ite_f hr1 hc2
  refine WL_guard rfl rfl ?_
  refine WL_move rfl rfl ?_
  refine WL_guard rfl rfl ?_
  refine WL_len Try.underlying31 g2 rfl rfl ?_
  refine WL_guard rfl rfl ?_
  refine WL_gtr rfl rfl rfl ?_
  refine WL_pick_f rfl rfl rfl ?_
  refine WL_nil ?_
  have hq3 := Option.some.inj hr1
  subst hq3
  refine nrm_sub (l' := [(0, u1), (1, u2), (2, (.int .i64 a3)), (3, (.int .i64 a4)), (10, (.slice (some ⟨b1, 0, none⟩) 0 0)), (30, (.bool (decide (100 < (List.length a2 : Int)))))]) ⟨rfl, rfl, rfl, rfl, rfl, rfl, trivial⟩ ?_
  exact ⟨(decide (100 < (List.length a2 : Int))), rfl, rfl, ((Keep.of hB3).then hB4).below, hC7⟩
 rintro _ w2 ⟨x1, rfl, rfl, hB2, hC5⟩
 try dsimp only at hF
 refine W_cond rfl (fun hc3 => ?_) (fun hc3 => ?_)
 ·replace hF := ite_t hF hc3
  refine W_seq_reg ?_
  refine WL_move rfl rfl ?_
  refine WL_assign rfl rfl ?_
  refine WL_assign rfl rfl ?_
  refine WL_nil ?_
  refine W_ret ?_
  refine nrm_ret ?_
  have hq4 := Option.some.inj hF
  subst hq4
  refine fn_ret2 rfl rfl rfl ?_
  have hC8 := hC5.triv (bool_val (false))
  have hC9 := hC8.f1
  exact ⟨_, rfl, res2_of hC9⟩
 replace hF := ite_f hF hc3
 refine W_skip ?_
 refine nrm_normal ?_
 refine W_seq_reg ?_
 refine WL_move rfl rfl ?_
 refine WL_assign rfl rfl ?_
 refine WL_nil ?_
 refine W_seq ?_
 refine W_seq_reg ?_
 refine WL_assign rfl rfl ?_
 refine WL_nil ?_
 obtain ⟨r2, hr4, hF⟩ := bind_some hF
 refine W_norm (fun l w => ∃ v2 : Value, ∃ x7 : (List Int), .inl x7 = r2 ∧ l = [(10, v2)] ∧ Ctx [] w0 w [Item.own v2 (x7 : (List Int))]) ?_ ?_
 ·refine W_block ?_
  refine W.sub (l' := [(0, u1), (1, u2), (2, (.int .i64 a3)), (10, (.slice (some ⟨b1, 0, none⟩) 0 0)), (11, (.int .i64 a4)), (12, (.int .i64 0))]) ?_ ⟨rfl, rfl, rfl, rfl, rfl, rfl, trivial⟩
  refine W_loop (fun k l w => ∃ v1 : Value, ∃ x4 : (List Int), ∃ x5 : Int, ∃ x6 : Int, l = [(0, u1), (1, u2), (2, (.int .i64 a3)), (10, v1), (11, (.int .i64 x5)), (12, (.int .i64 x6))] ∧ Ctx [] w0 w [Item.own v1 (x4 : (List Int))] ∧ S.ScheduleLog_l1 a2 a1 a3 k x4 x5 x6 = some r2) FUEL ⟨(.slice (some ⟨b1, 0, none⟩) 0 0), ([] : List Int), a4, 0, rfl, hC5, hr4⟩ ?_
  clear hr4
  rintro k1 _ w5 ⟨v1, x4, x5, x6, rfl, hC10, hL1⟩
  cases k1 with
  | zero => rw [S.ScheduleLog_l1] at hL1; cases hL1
  | succ k1 =>
   rw [S.ScheduleLog_l1] at hL1
   refine W_seq ?_
   refine W_seq_reg ?_
   refine WL_move rfl rfl ?_
   refine WL_move rfl rfl ?_
   refine WL_len Try.underlying31 g2 rfl rfl ?_
   refine WL_lss rfl rfl rfl ?_
   refine WL_nil ?_
   refine W_cond rfl (fun hc4 => ?_) (fun hc4 => ?_)
   ·replace hL1 := ite_t hL1 hc4
    refine W_skip ?_
    refine nrm_normal ?_
    refine W_seq ?_
    refine W_block ?_
    refine W_seq ?_
    obtain ⟨r3, hr5, hL1⟩ := bind_some hL1
    refine W_cut (fun l w => ∃ x8 : Bool, x8 = r3 ∧ l = [(0, u1), (1, u2), (2, (.int .i64 a3)), (10, v1), (11, (.int .i64 x5)), (12, (.int .i64 x6)), (61, (.bool x8))] ∧ Below w5.heap.size w5 w ∧ Ctx [] w0 w [Item.own v1 (x4 : (List Int))]) ?_ ?_
    ·refine W_reg ?_
     refine WL_move rfl rfl ?_
     refine WL_move rfl rfl ?_
     obtain ⟨x9, hx1, hr5⟩ := bind_some hr5
     refine WL_index Try.underlying31 ty45 g2 hx1 rfl rfl rfl (fun b2 o1 h1 => ?_)
     refine WL_field Try.underlying45 rfl rfl (fun w => ⟨_, Try.sizeOf3 w⟩) rfl rfl ?_
     refine WL_load ty3 h1.fst hC10.keep rfl rfl (fun v3 h2 => ?_)
     obtain rfl := ro_int h2
     refine WL_move rfl rfl ?_
     refine WL_len Try.underlying29 g1 rfl rfl ?_
     refine WL_sub rfl rfl rfl ?_
     obtain ⟨x10, hr6, hr5⟩ := bind_some hr5
     refine WL_call Try.call24 rfl rfl (c_S_l1In x9.1 0 (w64 ((List.length a1 : Int) - 1)) x10 hr6) ?_
     intro _ w7 hv3
     obtain ⟨rfl, hB7⟩ := res_bool hv3
     have hC12 := hC10.grow hB7
     refine WL_not rfl rfl ?_
     refine WL_move rfl rfl ?_
     refine WL_fork (fun hc5 => ?_) (fun hc5 => ?_)
     ·replace hr5 := ite_t hr5 hc5
      refine WL_guard_skip rfl rfl (by simp) rfl ?_
      refine WL_guard_skip rfl rfl (by simp) rfl ?_
      refine WL_guard_skip rfl rfl (by simp) rfl ?_
      refine WL_guard_skip rfl rfl (by simp) rfl ?_
      refine WL_guard_skip rfl rfl (by simp) rfl ?_
      refine WL_guard_skip rfl rfl (by simp) rfl ?_
      refine WL_guard_skip rfl rfl (by simp) rfl ?_
      refine WL_guard_skip rfl rfl (by simp) rfl ?_
      refine WL_guard_skip rfl rfl (by simp) rfl ?_
      refine WL_guard_skip rfl rfl (by simp) rfl ?_
      refine WL_guard_skip rfl rfl (by simp) rfl ?_
      refine WL_pick_t rfl rfl rfl ?_
      refine WL_nil ?_
      have hq5 := Option.some.inj hr5
      subst hq5
      refine nrm_sub (l' := [(0, u1), (1, u2), (2, (.int .i64 a3)), (10, v1), (11, (.int .i64 x5)), (12, (.int .i64 x6)), (61, (.bool true))]) ⟨rfl, rfl, rfl, rfl, rfl, rfl, rfl, trivial⟩ ?_
      exact ⟨true, rfl, rfl, (Keep.of hB7).below, hC12⟩
     replace hr5 := ite_f hr5 hc5
     refine WL_guard rfl rfl ?_
     refine WL_move rfl rfl ?_
     refine WL_guard rfl rfl ?_
     refine WL_move rfl rfl ?_
     refine WL_guard rfl rfl ?_
     refine WL_move rfl rfl ?_
     obtain ⟨x11, hx2, hr5⟩ := bind_some hr5
     refine WL_guard rfl rfl ?_
     refine WL_index Try.underlying31 ty45 g2 hx2 rfl rfl rfl (fun b3 o2 h3 => ?_)
     refine WL_guard rfl rfl ?_
     refine WL_field Try.underlying45 rfl rfl (fun w => ⟨_, Try.sizeOf3 w⟩) rfl rfl ?_
     refine WL_guard rfl rfl ?_
     refine WL_load ty3 h3.fst hC12.keep rfl rfl (fun v4 h4 => ?_)
     obtain rfl := ro_int h4
     obtain ⟨x12, hx3, hr5⟩ := bind_some hr5
     refine WL_guard rfl rfl ?_
     refine WL_index Try.underlying29 ty47 g1 hx3 rfl rfl rfl (fun b4 o3 h5 => ?_)
     refine WL_guard rfl rfl ?_
     refine WL_field Try.underlying47 rfl rfl (fun w => ⟨_, Try.sizeOf3 w⟩) rfl rfl ?_
     refine WL_guard rfl rfl ?_
     refine WL_load ty3 h5.snd.snd.snd.snd hC12.keep rfl rfl (fun v5 h6 => ?_)
     obtain rfl := ro_int h6
     obtain ⟨x13, hr7, hr5⟩ := bind_some hr5
     refine WL_guard rfl rfl ?_
     refine WL_call Try.call24 rfl rfl (c_S_l1In x12.2.2.2.2 1 99 x13 hr7) ?_
     intro _ w9 hv4
     obtain ⟨rfl, hB8⟩ := res_bool hv4
     have hC13 := hC12.grow hB8
     refine WL_guard rfl rfl ?_
     refine WL_not rfl rfl ?_
     refine WL_pick_f rfl rfl rfl ?_
     refine WL_nil ?_
     have hq6 := Option.some.inj hr5
     subst hq6
     refine nrm_sub (l' := [(0, u1), (1, u2), (2, (.int .i64 a3)), (10, v1), (11, (.int .i64 x5)), (12, (.int .i64 x6)), (61, (.bool (!x13)))]) ⟨rfl, rfl, rfl, rfl, rfl, rfl, rfl, trivial⟩ ?_
     exact ⟨(!x13), rfl, rfl, ((Keep.of hB7).then hB8).below, hC13⟩
    rintro _ w6 ⟨x8, rfl, rfl, hB6, hC11⟩
    try dsimp only at hL1
    refine W_cond rfl (fun hc6 => ?_) (fun hc6 => ?_)
    ·replace hL1 := ite_t hL1 hc6
     refine W_seq_reg ?_
     refine WL_buildSlice (vs := []) hC11 Try.underlying26 ty3 rfl rfl rfl rfl (by simp) rfl rfl (fun b5 w10 hC14 hB9 => ?_)
     have hC15 := hC14.row0 (α := Int)
     have hC16 := hC15.front 1 rfl
     dsimp only [List.eraseIdx, List.cons_append, List.nil_append, List.append_nil] at hC16
     have hC17 : Ctx [] w0 w10 (Item.own (.slice (some ⟨b5, 0, none⟩) 0 0) (([] : List Int) : List Int) :: [Item.own v1 (x4 : (List Int))]) := hC16.rowOwn (by simp [maxLen])
     refine WL_assign rfl rfl ?_
     refine WL_assign rfl rfl ?_
     refine WL_nil ?_
     refine W_ret ?_
     refine nrm_ret ?_
     refine blk_ret ?_
     refine nrm_ret ?_
     refine nrm_ret ?_
     refine blk_ret ?_
     refine nrm_ret ?_
     refine nrm_ret ?_
     have hq7 := Option.some.inj hL1
     subst hq7
     dsimp only at hF
     have hq8 := Option.some.inj hF
     subst hq8
     refine fn_ret2 rfl rfl rfl ?_
     have hC18 := hC17.triv (bool_val (false))
     have hC19 := hC18.f1
     exact ⟨_, rfl, res2_of hC19⟩
    replace hL1 := ite_f hL1 hc6
    refine W_skip ?_
    refine nrm_normal ?_
    refine W_seq_reg ?_
    refine WL_buildSlice (vs := []) hC11 Try.underlying26 ty3 rfl rfl rfl rfl (by simp) rfl rfl (fun b6 w11 hC20 hB10 => ?_)
    have hC21 := hC20.row0 (α := Int)
    have hC22 := hC21.front 1 rfl
    dsimp only [List.eraseIdx, List.cons_append, List.nil_append, List.append_nil] at hC22
    have hC23 : Ctx [] w0 w11 (Item.own (.slice (some ⟨b6, 0, none⟩) 0 0) (([] : List Int) : List Int) :: [Item.own v1 (x4 : (List Int))]) := hC22.rowOwn (by simp [maxLen])
    refine WL_assign rfl rfl ?_
    refine WL_nil ?_
    refine W_seq ?_
    refine W_seq_reg ?_
    refine WL_assign rfl rfl ?_
    refine WL_nil ?_
    obtain ⟨r4, hr8, hL1⟩ := bind_some hL1
    refine W_norm (fun l w => ∃ v7 : Value, ∃ x16 : (List Int), x16 = r4 ∧ l = [(0, u1), (1, u2), (2, (.int .i64 a3)), (10, v1), (11, (.int .i64 x5)), (12, (.int .i64 x6)), (13, v7)] ∧ Ctx [] w0 w [Item.own v7 (x16 : (List Int)), Item.own v1 (x4 : (List Int))]) ?_ ?_
    ·refine W_block ?_
     refine W.sub (l' := [(0, u1), (1, u2), (2, (.int .i64 a3)), (10, v1), (11, (.int .i64 x5)), (12, (.int .i64 x6)), (13, (.slice (some ⟨b6, 0, none⟩) 0 0)), (14, (.int .i64 0))]) ?_ ⟨rfl, rfl, rfl, rfl, rfl, rfl, rfl, rfl, trivial⟩
     refine W_loop (fun k l w => ∃ v6 : Value, ∃ x14 : (List Int), ∃ x15 : Int, l = [(0, u1), (1, u2), (2, (.int .i64 a3)), (10, v1), (11, (.int .i64 x5)), (12, (.int .i64 x6)), (13, v6), (14, (.int .i64 x15))] ∧ Ctx [] w0 w [Item.own v6 (x14 : (List Int)), Item.own v1 (x4 : (List Int))] ∧ S.ScheduleLog_l2 x6 a2 x4 k x14 x15 = some r4) FUEL ⟨(.slice (some ⟨b6, 0, none⟩) 0 0), ([] : List Int), 0, rfl, hC23, hr8⟩ ?_
     clear hr8
     rintro k2 _ w12 ⟨v6, x14, x15, rfl, hC24, hL2⟩
     cases k2 with
     | zero => rw [S.ScheduleLog_l2] at hL2; cases hL2
     | succ k2 =>
      rw [S.ScheduleLog_l2] at hL2
      refine W_seq ?_
      refine W_seq_reg ?_
      refine WL_move rfl rfl ?_
      refine WL_move rfl rfl ?_
      refine WL_lss rfl rfl rfl ?_
      refine WL_nil ?_
      refine W_cond rfl (fun hc7 => ?_) (fun hc7 => ?_)
      ·replace hL2 := ite_t hL2 hc7
       refine W_skip ?_
       refine nrm_normal ?_
       refine W_seq ?_
       refine W_block ?_
       refine W_seq ?_
       refine W_drawn 11 rfl hmix (fun w13 hB12 => ?_)
       have hC25 := hC24.grow hB12
       refine WA_tk 0 (by kernel_rfl) rfl rfl (fl_move rfl) ?_
       refine WL_move rfl rfl ?_
       refine WL_nil ?_
       refine WA_tk 1 (by kernel_rfl) rfl rfl (fl_move rfl) ?_
       refine WL_move rfl rfl ?_
       refine WL_nil ?_
       obtain ⟨x17, hx4, hL2⟩ := bind_some hL2
       refine WA_tk 2 (by kernel_rfl) rfl rfl (fl_index Try.underlying31 ty45 g2 hx4 rfl rfl) ?_
       refine WL_index Try.underlying31 ty45 g2 hx4 rfl rfl rfl (fun b7 o4 h7 => ?_)
       refine WL_nil ?_
       refine WA_tk 3 (by kernel_rfl) rfl rfl (fl_field Try.underlying45 rfl rfl (fun w => ⟨_, Try.sizeOf3 w⟩) rfl) ?_
       refine WL_field Try.underlying45 rfl rfl (fun w => ⟨_, Try.sizeOf3 w⟩) rfl rfl ?_
       refine WL_nil ?_
       refine WA_tk 5 (by kernel_rfl) rfl rfl (fl_move rfl) ?_
       refine WL_move rfl rfl ?_
       refine WL_nil ?_
       refine WA_tk 6 (by kernel_rfl) rfl rfl (fl_move rfl) ?_
       refine WL_move rfl rfl ?_
       refine WL_nil ?_
       obtain ⟨x18, hx5, hL2⟩ := bind_some hL2
       refine WA_tk 7 (by kernel_rfl) rfl rfl (fl_index Try.underlying31 ty45 g2 hx5 rfl rfl) ?_
       refine WL_index Try.underlying31 ty45 g2 hx5 rfl rfl rfl (fun b8 o5 h8 => ?_)
       refine WL_nil ?_
       refine WA_tk 8 (by kernel_rfl) rfl rfl (fl_field Try.underlying45 rfl rfl (fun w => ⟨_, Try.sizeOf3 w⟩) rfl) ?_
       refine WL_field Try.underlying45 rfl rfl (fun w => ⟨_, Try.sizeOf3 w⟩) rfl rfl ?_
       refine WL_nil ?_
       refine WA.sub (l' := [(0, u1), (1, u2), (2, (.int .i64 a3)), (10, v1), (11, (.int .i64 x5)), (12, (.int .i64 x6)), (13, v6), (14, (.int .i64 x15)), (64, (.int .i64 x15)), (65, (.int .i64 x6)), (66, (.bool (decide (x15 < x6)))), (69, u2), (70, (.int .i64 x15)), (71, (ptr b7 o4)), (72, (ptr b7 (o4 + 0))), (74, u2), (75, (.int .i64 x6)), (76, (ptr b8 o5)), (77, (ptr b8 (o5 + 0)))]) ?_ ⟨rfl, rfl, rfl, rfl, rfl, rfl, rfl, rfl, rfl, rfl, rfl, rfl, rfl, rfl, rfl, rfl, rfl, rfl, rfl, trivial⟩
       refine WA_postsE [⟨4, [], fun vs => PW.val (.int .i64 x17.1), []⟩, ⟨9, [], fun vs => PW.val (.int .i64 x18.1), []⟩] [[], []] 1 rfl (by kernel_rfl) (by kernel_rfl) rfl ?_ ?_
       ·refine StepsE_cons rfl ?_ ?_
        ·intro w14 hB13
         refine DepsE_nil ?_
         refine ⟨_, rfl, ?_⟩
         refine WL_load ty3 h7.fst (hC25.keep.then hB13) rfl rfl (fun v8 h9 => ?_)
         obtain rfl := ro_int h9
         refine WL_nil ?_
         exact FinE_val (Below.refl _ _) rfl rfl ⟨rfl, rfl⟩
        refine StepsE_cons rfl ?_ ?_
        ·intro w14 hB13
         refine DepsE_nil ?_
         refine ⟨_, rfl, ?_⟩
         refine WL_load ty3 h8.fst (hC25.keep.then hB13) rfl rfl (fun v9 h10 => ?_)
         obtain rfl := ro_int h10
         refine WL_nil ?_
         exact FinE_val (Below.refl _ _) rfl rfl ⟨rfl, rfl⟩
        exact StepsE_nil
       intro w15 hB14
       refine AllE_cons rfl rfl rfl ?_
       rintro _ _ ⟨rfl, rfl⟩
       refine AllE_cons rfl rfl rfl ?_
       rintro _ _ ⟨rfl, rfl⟩
       refine AllE_nil ?_
       intro hn1 hb1
       have hC26 := hC25.grow hB14
       refine WA_tk 10 (by kernel_rfl) rfl rfl (fl_eql rfl rfl) ?_
       refine WL_eql rfl rfl rfl ?_
       refine WL_nil ?_
       refine WA_done (by kernel_rfl) ?_
       refine nrm_normal ?_
       obtain ⟨r5, hr9, hL2⟩ := bind_some hL2
       refine W_norm (fun l w => ∃ v10 : Value, ∃ x19 : (List Int), x19 = r5 ∧ l = [(0, u1), (1, u2), (2, (.int .i64 a3)), (10, v1), (11, (.int .i64 x5)), (12, (.int .i64 x6)), (13, v10), (14, (.int .i64 x15))] ∧ Ctx [] w0 w [Item.own v10 (x19 : (List Int)), Item.own v1 (x4 : (List Int))]) ?_ ?_
       ·refine W_cond rfl (fun hc8 => ?_) (fun hc8 => ?_)
        ·replace hr9 := ite_t hr9 hc8
         refine W_reg ?_
         refine WL_move rfl rfl ?_
         refine WL_move rfl rfl ?_
         refine WL_move rfl rfl ?_
         obtain ⟨x20, hx6, hr9⟩ := bind_some hr9
         refine WL_index Try.underlying26 ty3 (hC26.ro 1 rfl) hx6 rfl rfl rfl (fun b9 o6 h11 => ?_)
         refine WL_load ty3 h11 (Keep.refl _ _) rfl rfl (fun v11 h12 => ?_)
         obtain rfl := ro_int h12
         refine WL_buildSlice (vs := [(.int .i64 x20)]) hC26 Try.underlying26 ty3 rfl rfl rfl rfl (by intro v hv; simp only [List.mem_cons, List.not_mem_nil, or_false] at hv; rcases hv with rfl <;> rfl) rfl rfl (fun b10 w17 hC28 hB16 => ?_)
         have hC29 := hC28.row0 (α := Int)
         have hC30 := hC29.triv (int_val (x20))
         have hC31 := hC30.row1
         have hC32 := hC31.front 1 rfl
         dsimp only [List.eraseIdx, List.cons_append, List.nil_append, List.append_nil] at hC32
         have hC33 : Ctx [] w0 w17 (Item.own (.slice (some ⟨b10, 0, none⟩) 1 1) ([x20] : List Int) :: [Item.own v6 (x14 : (List Int)), Item.own v1 (x4 : (List Int))]) := hC32.rowOwn (by simp [maxLen])
         obtain ⟨x21, hx7, hr9⟩ := bind_some hr9
         refine WL_append_flat (α := Int) hC33 1 rfl (hC33.ro 0 rfl) (Keep.refl _ _) Try.underlying26 ty3 rfl hx7 rfl rfl rfl (fun v12 w18 hC34 => ?_)
         try dsimp only [List.set] at hC34
         refine WL_assign rfl rfl ?_
         refine WL_nil ?_
         have hq9 := Option.some.inj hr9
         subst hq9
         have hC35 := hC34.f2
         have hC36 := hC35.f2
         have hC37 := hC36.h2
         refine nrm_sub (l' := [(0, u1), (1, u2), (2, (.int .i64 a3)), (10, v1), (11, (.int .i64 x5)), (12, (.int .i64 x6)), (13, v12), (14, (.int .i64 x15))]) ⟨rfl, rfl, rfl, rfl, rfl, rfl, rfl, rfl, trivial⟩ ?_
         exact ⟨v12, x21, rfl, rfl, hC37⟩
        replace hr9 := ite_f hr9 hc8
        refine W_skip ?_
        have hq10 := Option.some.inj hr9
        subst hq10
        refine nrm_sub (l' := [(0, u1), (1, u2), (2, (.int .i64 a3)), (10, v1), (11, (.int .i64 x5)), (12, (.int .i64 x6)), (13, v6), (14, (.int .i64 x15))]) ⟨rfl, rfl, rfl, rfl, rfl, rfl, rfl, rfl, trivial⟩ ?_
        exact ⟨v6, x14, rfl, rfl, hC26⟩
       rintro l5 _ w16 hs5 ⟨v10, x19, rfl, rfl, hC27⟩
       try dsimp only at hL2
       refine blk_normal ?_
       refine nrm_sub' hs5 ?_
       clear hs5
       refine W_reg ?_
       refine WL_move rfl rfl ?_
       refine WL_add rfl rfl rfl ?_
       refine WL_assign rfl rfl ?_
       refine WL_nil ?_
       refine nrm_sub (l' := [(0, u1), (1, u2), (2, (.int .i64 a3)), (10, v1), (11, (.int .i64 x5)), (12, (.int .i64 x6)), (13, v10), (14, (.int .i64 (w64 (x15 + 1))))]) ⟨rfl, rfl, rfl, rfl, rfl, rfl, rfl, rfl, trivial⟩ ?_
       exact ⟨k2, Nat.lt_succ_self _, v10, x19, w64 (x15 + 1), rfl, hC27, hL2⟩
      replace hL2 := ite_f hL2 hc7
      refine W_exit ?_
      refine nrm_exit ?_
      refine nrm_exit ?_
      refine blk_exit ?_
      have hq11 := Option.some.inj hL2
      subst hq11
      refine nrm_sub (l' := [(0, u1), (1, u2), (2, (.int .i64 a3)), (10, v1), (11, (.int .i64 x5)), (12, (.int .i64 x6)), (13, v6)]) ⟨rfl, rfl, rfl, rfl, rfl, rfl, rfl, trivial⟩ ?_
      exact ⟨v6, x14, rfl, rfl, hC24⟩
    rintro l6 _ w19 hs6 ⟨v7, x16, rfl, rfl, hC38⟩
    try dsimp only at hL1
    refine nrm_sub' hs6 ?_
    clear hs6
    refine W_seq_reg ?_
    refine WL_move rfl rfl ?_
    refine WL_move rfl rfl ?_
    refine WL_move rfl rfl ?_
    refine WL_move rfl rfl ?_
    refine WL_move rfl rfl ?_
    obtain ⟨x22, hx8, hL1⟩ := bind_some hL1
    refine WL_index Try.underlying31 ty45 g2 hx8 rfl rfl rfl (fun b11 o7 h13 => ?_)
    refine WL_field Try.underlying45 rfl rfl (fun w => ⟨_, Try.sizeOf3 w⟩) rfl rfl ?_
    refine WL_load ty3 h13.fst hC38.keep rfl rfl (fun v13 h14 => ?_)
    obtain rfl := ro_int h14
    obtain ⟨x23, hx9, hL1⟩ := bind_some hL1
    refine WL_index Try.underlying29 ty47 g1 hx9 rfl rfl rfl (fun b12 o8 h15 => ?_)
    refine WL_field Try.underlying47 rfl rfl (fun w => ⟨_, Try.sizeOf3 w⟩) rfl rfl ?_
    refine WL_load ty3 h15.snd.snd.snd.snd hC38.keep rfl rfl (fun v14 h16 => ?_)
    obtain rfl := ro_int h16
    refine WL_build (vs := [(0, (.int .i64 a3)), (1, (.int .i64 x23.2.2.2.2))]) rfl rfl rfl (built49_0_1 rfl rfl) ?_
    refine WL_move rfl rfl ?_
    obtain ⟨x24, hr10, hL1⟩ := bind_some hL1
    refine WL_call Try.call25 rfl rfl (c_S_NextTime x16 v7 ((hC38.ro 0 rfl).now (Keep.refl _ _)) (a3, x23.2.2.2.2) x5 x24 hr10) ?_
    rintro _ w20 ⟨hB18, v15, v16, F1, F2, rfl, hv5, hv6, hn2, hb2⟩
    obtain ⟨rfl, rfl⟩ := val_int hv5
    obtain ⟨rfl, rfl⟩ := val_bool hv6
    have hC39 := hC38.grow hB18
    refine WL_move rfl rfl ?_
    refine WL_extract rfl rfl rfl ?_
    refine WL_extract rfl rfl rfl ?_
    refine WL_assign rfl rfl ?_
    refine WL_assign rfl rfl ?_
    refine WL_nil ?_
    refine W_seq ?_
    refine W_seq_reg ?_
    refine WL_move rfl rfl ?_
    refine WL_not rfl rfl ?_
    refine WL_nil ?_
    refine W_cond rfl (fun hc9 => ?_) (fun hc9 => ?_)
    ·replace hL1 := ite_t hL1 hc9
     refine W_seq_reg ?_
     refine WL_buildSlice (vs := []) hC39 Try.underlying26 ty3 rfl rfl rfl rfl (by simp) rfl rfl (fun b13 w21 hC40 hB19 => ?_)
     have hC41 := hC40.row0 (α := Int)
     have hC42 := hC41.front 1 rfl
     dsimp only [List.eraseIdx, List.cons_append, List.nil_append, List.append_nil] at hC42
     have hC43 : Ctx [] w0 w21 (Item.own (.slice (some ⟨b13, 0, none⟩) 0 0) (([] : List Int) : List Int) :: [Item.own v7 (x16 : (List Int)), Item.own v1 (x4 : (List Int))]) := hC42.rowOwn (by simp [maxLen])
     refine WL_assign rfl rfl ?_
     refine WL_assign rfl rfl ?_
     refine WL_nil ?_
     refine W_ret ?_
     refine nrm_ret ?_
     refine blk_ret ?_
     refine nrm_ret ?_
     refine nrm_ret ?_
     refine blk_ret ?_
     refine nrm_ret ?_
     refine nrm_ret ?_
     have hq12 := Option.some.inj hL1
     subst hq12
     dsimp only at hF
     have hq13 := Option.some.inj hF
     subst hq13
     refine fn_ret2 rfl rfl rfl ?_
     have hC44 := hC43.triv (bool_val (false))
     have hC45 := hC44.f1
     exact ⟨_, rfl, res2_of hC45⟩
    replace hL1 := ite_f hL1 hc9
    refine W_skip ?_
    refine nrm_normal ?_
    refine W_seq_reg ?_
    refine WL_move rfl rfl ?_
    refine WL_move rfl rfl ?_
    refine WL_buildSlice (vs := [(.int .i64 x24.1)]) hC39 Try.underlying26 ty3 rfl rfl rfl rfl (by intro v hv; simp only [List.mem_cons, List.not_mem_nil, or_false] at hv; rcases hv with rfl <;> rfl) rfl rfl (fun b14 w22 hC46 hB20 => ?_)
    have hC47 := hC46.row0 (α := Int)
    have hC48 := hC47.triv (int_val (x24.1))
    have hC49 := hC48.row1
    have hC50 := hC49.front 1 rfl
    dsimp only [List.eraseIdx, List.cons_append, List.nil_append, List.append_nil] at hC50
    have hC51 : Ctx [] w0 w22 (Item.own (.slice (some ⟨b14, 0, none⟩) 1 1) ([x24.1] : List Int) :: [Item.own v7 (x16 : (List Int)), Item.own v1 (x4 : (List Int))]) := hC50.rowOwn (by simp [maxLen])
    obtain ⟨x25, hx10, hL1⟩ := bind_some hL1
    refine WL_append_flat (α := Int) hC51 2 rfl (hC51.ro 0 rfl) (Keep.refl _ _) Try.underlying26 ty3 rfl hx10 rfl rfl rfl (fun v17 w23 hC52 => ?_)
    try dsimp only [List.set] at hC52
    refine WL_assign rfl rfl ?_
    refine WL_nil ?_
    refine W_reg ?_
    refine WL_move rfl rfl ?_
    refine WL_assign rfl rfl ?_
    refine WL_nil ?_
    refine blk_normal ?_
    refine nrm_normal ?_
    refine W_reg ?_
    refine WL_move rfl rfl ?_
    refine WL_add rfl rfl rfl ?_
    refine WL_assign rfl rfl ?_
    refine WL_nil ?_
    have hC53 := hC52.f2
    have hC54 := hC53.h1
    refine nrm_sub (l' := [(0, u1), (1, u2), (2, (.int .i64 a3)), (10, v17), (11, (.int .i64 x24.1)), (12, (.int .i64 (w64 (x6 + 1))))]) ⟨rfl, rfl, rfl, rfl, rfl, rfl, trivial⟩ ?_
    exact ⟨k1, Nat.lt_succ_self _, v17, x25, x24.1, w64 (x6 + 1), rfl, hC54, hL1⟩
   replace hL1 := ite_f hL1 hc4
   refine W_exit ?_
   refine nrm_exit ?_
   refine nrm_exit ?_
   refine blk_exit ?_
   have hq14 := Option.some.inj hL1
   subst hq14
   refine nrm_sub (l' := [(10, v1)]) ⟨rfl, trivial⟩ ?_
   exact ⟨v1, x4, rfl, rfl, hC10⟩
 rintro l7 _ w24 hs7 ⟨v2, x7, rfl, rfl, hC55⟩
 try dsimp only at hF
 refine nrm_sub' hs7 ?_
 clear hs7
 refine W_seq_reg ?_
 refine WL_move rfl rfl ?_
 refine WL_assign rfl rfl ?_
 refine WL_assign rfl rfl ?_
 refine WL_nil ?_
 refine W_ret ?_
 have hq15 := Option.some.inj hF
 subst hq15
 refine fn_ret2 rfl rfl rfl ?_
 have hC56 := hC55.triv (bool_val (true))
 have hC57 := hC56.f1
 exact ⟨_, rfl, res2_of hC57⟩

theorem c_M_within {w0 : World} (a1 : Int) (a2 : Int) (a3 : Int) (rr : Bool) (hF : M.within a1 a2 a3 = some rr) :
 Calls Try.prog 28 [(.int .i64 a1), (.int .i64 a2), (.int .i64 a3)].toArray w0 fun e w' => ∃ v, e = .returned v ∧ Res w0 rr v w' := by
 refine calls_of_W Try.func28 rfl rfl ?_
 have hC0 := Ctx.start w0
 unfold M.within at hF
 refine W_seq_reg ?_
 refine WL_assign rfl rfl ?_
 refine WL_nil ?_
 obtain ⟨r1, hr1, hF⟩ := bind_some hF
 refine W_cut (fun l w => ∃ x1 : Bool, x1 = r1 ∧ l = [(6, (.bool x1))] ∧ Below w0.heap.size w0 w ∧ Ctx [] w0 w []) ?_ ?_
 ·refine W_reg ?_
  refine WL_move rfl rfl ?_
  refine WL_move rfl rfl ?_
  refine WL_geq rfl rfl rfl ?_
  refine WL_move rfl rfl ?_
  refine WL_fork (fun hc1 => ?_) (fun hc1 => ?_)
  ·replace hr1 := ite_t hr1 hc1
   refine WL_guard rfl rfl ?_
   refine WL_move rfl rfl ?_
   refine WL_guard rfl rfl ?_
   refine WL_move rfl rfl ?_
   refine WL_guard rfl rfl ?_
   refine WL_leq rfl rfl rfl ?_
   refine WL_pick_t rfl rfl rfl ?_
   refine WL_assign rfl rfl ?_
   refine WL_nil ?_
   have hq1 := Option.some.inj hr1
   subst hq1
   refine nrm_sub (l' := [(6, (.bool (decide (a1 ≤ a3))))]) ⟨rfl, trivial⟩ ?_
   exact ⟨(decide (a1 ≤ a3)), rfl, rfl, (Below.refl _ _), hC0⟩
  replace hr1 := ite_f hr1 hc1
  refine WL_guard_skip rfl rfl (by simp) rfl ?_
  refine WL_guard_skip rfl rfl (by simp) rfl ?_
  refine WL_guard_skip rfl rfl (by simp) rfl ?_
  refine WL_pick_f rfl rfl rfl ?_
  refine WL_assign rfl rfl ?_
  refine WL_nil ?_
  have hq2 := Option.some.inj hr1
  subst hq2
  refine nrm_sub (l' := [(6, (.bool false))]) ⟨rfl, trivial⟩ ?_
  exact ⟨false, rfl, rfl, (Below.refl _ _), hC0⟩
 rintro _ w1 ⟨x1, rfl, rfl, hB1, hC1⟩
 try dsimp only at hF
 refine W_ret ?_
 have hq3 := Option.some.inj hF
 subst hq3
 refine fn_ret1 rfl rfl ?_
 exact ⟨_, rfl, bool_res hC1 _⟩

theorem c_M_isTime {w0 : World} (a1 : Int) (rr : Bool) (hF : M.isTime a1 = some rr) :
 Calls Try.prog 29 [(.int .i64 a1)].toArray w0 fun e w' => ∃ v, e = .returned v ∧ Res w0 rr v w' := by
 refine calls_of_W Try.func29 rfl rfl ?_
 have hC0 := Ctx.start w0
 unfold M.isTime at hF
 refine W_seq_reg ?_
 refine WL_assign rfl rfl ?_
 refine WL_nil ?_
 refine W_seq_reg ?_
 refine WL_move rfl rfl ?_
 obtain ⟨x1, hr1, hF⟩ := bind_some hF
 refine WL_call Try.call28 rfl rfl (c_M_within a1 0 10000 x1 hr1) ?_
 intro _ w1 hv1
 obtain ⟨rfl, hB1⟩ := res_bool hv1
 have hC1 := hC0.grow hB1
 refine WL_assign rfl rfl ?_
 refine WL_nil ?_
 refine W_ret ?_
 have hq1 := Option.some.inj hF
 subst hq1
 refine fn_ret1 rfl rfl ?_
 exact ⟨_, rfl, bool_res hC1 _⟩

theorem c_M_Window_next {w0 : World} (a1 : (Int × Int)) (a2 : (List Int)) (u1 : Value) (g1 : RO [] w0 u1 a2) (a3 : Int) (rr : (Int × Bool)) (hF : M.Window_next a1 a2 a3 = some rr) :
 Calls Try.prog 30 [(.agg #[(.int .i64 a1.1), (.int .i64 a1.2)]), u1, (.int .i64 a3)].toArray w0 fun e w' => ∃ v, e = .returned v ∧ Res2 w0 rr.1 rr.2 v w' := by
 refine calls_of_W Try.func30 rfl rfl ?_
 have hC0 := Ctx.start w0
 unfold M.Window_next at hF
 refine W_seq_reg ?_
 refine WL_boxK (cs := [(.int .i64 a1.1), (.int .i64 a1.2)]) hC0 rfl rfl rfl (fun b1 w1 hC1 hB1 hN1 => ?_)
 refine WL_assign rfl rfl ?_
 refine WL_assign rfl rfl ?_
 refine WL_nil ?_
 refine W_seq_reg ?_
 refine WL_move rfl rfl ?_
 refine WL_assign rfl rfl ?_
 refine WL_nil ?_
 refine W_seq_reg ?_
 refine WL_move rfl rfl ?_
 refine WL_len Try.underlying26 g1 rfl rfl ?_
 refine WL_assign rfl rfl ?_
 refine WL_nil ?_
 refine W_seq ?_
 refine W_seq_reg ?_
 refine WL_move rfl rfl ?_
 refine WL_gtr rfl rfl rfl ?_
 refine WL_nil ?_
 obtain ⟨r1, hr1, hF⟩ := bind_some hF
 refine W_norm (fun l w => ∃ x1 : Int, x1 = r1 ∧ l = [(1, u1), (3, (ptr b1 0)), (8, (.int .i64 x1)), (9, (.int .i64 (List.length a2 : Int)))] ∧ Below w1.heap.size w1 w ∧ Ctx [] w0 w [Item.box b1 [(.int .i64 a1.1), (.int .i64 a1.2)]]) ?_ ?_
 ·refine W_cond rfl (fun hc1 => ?_) (fun hc1 => ?_)
  ·replace hr1 := ite_t hr1 hc1
   refine W_reg ?_
   refine WL_move rfl rfl ?_
   refine WL_move rfl rfl ?_
   refine WL_move rfl rfl ?_
   refine WL_sub rfl rfl rfl ?_
   obtain ⟨x2, hx1, hr1⟩ := bind_some hr1
   refine WL_index Try.underlying26 ty3 g1 hx1 rfl rfl rfl (fun b2 o1 h1 => ?_)
   refine WL_load ty3 h1 hC1.keep rfl rfl (fun v1 h2 => ?_)
   obtain rfl := ro_int h2
   refine WL_max rfl rfl rfl ?_
   refine WL_assign rfl rfl ?_
   refine WL_nil ?_
   have hq1 := Option.some.inj hr1
   subst hq1
   refine nrm_sub (l' := [(1, u1), (3, (ptr b1 0)), (8, (.int .i64 (if x2 > a3 then x2 else a3))), (9, (.int .i64 (List.length a2 : Int)))]) ⟨rfl, rfl, rfl, rfl, trivial⟩ ?_
   exact ⟨if x2 > a3 then x2 else a3, rfl, rfl, (Below.refl _ _), hC1⟩
  replace hr1 := ite_f hr1 hc1
  refine W_skip ?_
  have hq2 := Option.some.inj hr1
  subst hq2
  refine nrm_sub (l' := [(1, u1), (3, (ptr b1 0)), (8, (.int .i64 a3)), (9, (.int .i64 (List.length a2 : Int)))]) ⟨rfl, rfl, rfl, rfl, trivial⟩ ?_
  exact ⟨a3, rfl, rfl, (Below.refl _ _), hC1⟩
 rintro l1 _ w2 hs1 ⟨x1, rfl, rfl, hB2, hC2⟩
 try dsimp only at hF
 refine nrm_sub' hs1 ?_
 clear hs1
 refine W_seq ?_
 refine W_seq_reg ?_
 refine WL_move rfl rfl ?_
 refine WL_field Try.underlying49 rfl rfl (fun w => ⟨_, Try.sizeOf3 w⟩) rfl rfl ?_
 refine WL_load_box hC2 0 rfl rfl Try.isAgg3 rfl rfl ?_
 refine WL_geq rfl rfl rfl ?_
 refine WL_nil ?_
 obtain ⟨r2, hr2, hF⟩ := bind_some hF
 refine W_norm (fun l w => ∃ x3 : Int, x3 = r2 ∧ l = [(8, (.int .i64 x3))] ∧ Below w2.heap.size w2 w ∧ Ctx [] w0 w []) ?_ ?_
 ·refine W_cond rfl (fun hc2 => ?_) (fun hc2 => ?_)
  ·replace hr2 := ite_t hr2 hc2
   refine W_drawn 13 rfl hmix (fun w4 hB4 => ?_)
   have hC4 := hC2.grow hB4
   refine WA_tk 0 (by kernel_rfl) rfl rfl (fl_move rfl) ?_
   refine WL_move rfl rfl ?_
   refine WL_nil ?_
   refine WA_tk 1 (by kernel_rfl) rfl rfl (fl_move rfl) ?_
   refine WL_move rfl rfl ?_
   refine WL_nil ?_
   refine WA_tk 2 (by kernel_rfl) rfl rfl (fl_move rfl) ?_
   refine WL_move rfl rfl ?_
   refine WL_nil ?_
   refine WA_tk 3 (by kernel_rfl) rfl rfl (fl_field Try.underlying49 rfl rfl (fun w => ⟨_, Try.sizeOf3 w⟩) rfl) ?_
   refine WL_field Try.underlying49 rfl rfl (fun w => ⟨_, Try.sizeOf3 w⟩) rfl rfl ?_
   refine WL_nil ?_
   refine WA_tk 8 (by kernel_rfl) rfl rfl (fl_field Try.underlying49 rfl rfl (fun w => ⟨_, Try.sizeOf3 w⟩) rfl) ?_
   refine WL_field Try.underlying49 rfl rfl (fun w => ⟨_, Try.sizeOf3 w⟩) rfl rfl ?_
   refine WL_nil ?_
   obtain ⟨x4, hx2, hr2⟩ := bind_some hr2
   refine WA.sub (l' := [(1, u1), (3, (ptr b1 0)), (8, (.int .i64 x1)), (9, (.int .i64 (List.length a2 : Int))), (22, (.int .i64 (List.length a2 : Int))), (23, (ptr b1 1)), (24, (.int .i64 a1.2)), (25, (.bool (decide (a1.2 ≤ (List.length a2 : Int))))), (26, (.int .i64 x1)), (27, u1), (28, (.int .i64 (List.length a2 : Int))), (29, (ptr b1 1)), (34, (ptr b1 0))]) ?_ ⟨rfl, rfl, rfl, rfl, rfl, rfl, rfl, rfl, rfl, rfl, rfl, rfl, rfl, trivial⟩
   refine WA_postsE [⟨4, [], fun vs => PW.val (.int .i64 a1.2), []⟩, ⟨5, [], fun vs => PW.val (.int .i64 (w64 ((List.length a2 : Int) - a1.2))), []⟩, ⟨6, [], fun vs => PW.at [] w0 x4, []⟩, ⟨7, [], fun vs => PW.val (.int .i64 x4), []⟩, ⟨9, [], fun vs => PW.val (.int .i64 a1.1), []⟩] [[], [4], [5], [6], []] 3 rfl (by kernel_rfl) (by kernel_rfl) rfl ?_ ?_
   ·refine StepsE_cons rfl ?_ ?_
    ·intro w5 hB5
     refine DepsE_nil ?_
     refine ⟨_, rfl, ?_⟩
     refine WL_load_box (hC4.grow hB5) 0 rfl rfl Try.isAgg3 rfl rfl ?_
     refine WL_nil ?_
     exact FinE_val (Below.refl _ _) rfl rfl ⟨rfl, rfl⟩
    refine StepsE_cons rfl ?_ ?_
    ·intro w5 hB5
     refine DepsE_cons rfl rfl rfl ?_
     rintro _ _ ⟨rfl, rfl⟩ _
     refine DepsE_nil ?_
     refine ⟨_, rfl, ?_⟩
     refine WL_sub rfl rfl rfl ?_
     refine WL_nil ?_
     exact FinE_val (Below.refl _ _) rfl rfl ⟨rfl, rfl⟩
    refine StepsE_cons rfl ?_ ?_
    ·intro w5 hB5
     refine DepsE_cons rfl rfl rfl ?_
     rintro _ _ ⟨rfl, rfl⟩ _
     refine DepsE_nil ?_
     refine ⟨_, rfl, ?_⟩
     refine WL_index Try.underlying26 ty3 g1 hx2 rfl rfl rfl (fun b3 o2 h3 => ?_)
     refine WL_nil ?_
     exact FinE_val (Below.refl _ _) rfl rfl ⟨rfl, _, _, rfl, h3⟩
    refine StepsE_cons rfl ?_ ?_
    ·intro w5 hB5
     refine DepsE_cons rfl rfl rfl ?_
     rintro _ _ ⟨rfl, b3, o2, rfl, h3⟩ _
     refine DepsE_nil ?_
     refine ⟨_, rfl, ?_⟩
     refine WL_load ty3 h3 (hC4.keep.then hB5) rfl rfl (fun v2 h4 => ?_)
     obtain rfl := ro_int h4
     refine WL_nil ?_
     exact FinE_val (Below.refl _ _) rfl rfl ⟨rfl, rfl⟩
    refine StepsE_cons rfl ?_ ?_
    ·intro w5 hB5
     refine DepsE_nil ?_
     refine ⟨_, rfl, ?_⟩
     refine WL_load_box (hC4.grow hB5) 0 rfl rfl Try.isAgg3 rfl rfl ?_
     refine WL_nil ?_
     exact FinE_val (Below.refl _ _) rfl rfl ⟨rfl, rfl⟩
    exact StepsE_nil
   intro w6 hB6
   refine AllE_cons rfl rfl rfl ?_
   rintro _ _ ⟨rfl, rfl⟩
   refine AllE_cons rfl rfl rfl ?_
   rintro _ _ ⟨rfl, rfl⟩
   refine AllE_cons rfl rfl rfl ?_
   rintro _ _ ⟨rfl, b3, o2, rfl, h3⟩
   refine AllE_cons rfl rfl rfl ?_
   rintro _ _ ⟨rfl, rfl⟩
   refine AllE_cons rfl rfl rfl ?_
   rintro _ _ ⟨rfl, rfl⟩
   refine AllE_nil ?_
   intro hn1 hb1
   have hC5 := hC4.grow hB6
   refine WA_tk 10 (by kernel_rfl) rfl rfl (fl_add rfl rfl) ?_
   refine WL_add rfl rfl rfl ?_
   refine WL_nil ?_
   refine WA_tk 11 (by kernel_rfl) rfl rfl (fl_max rfl rfl) ?_
   refine WL_max rfl rfl rfl ?_
   refine WL_nil ?_
   refine WA_tk 12 (by kernel_rfl) rfl rfl (fl_assign rfl) ?_
   refine WL_assign rfl rfl ?_
   refine WL_nil ?_
   refine WA_done (by kernel_rfl) ?_
   have hq3 := Option.some.inj hr2
   subst hq3
   have hC6 := hC5.h0
   refine nrm_sub (l' := [(8, (.int .i64 (if (w64 (x4 + a1.1)) > x1 then w64 (x4 + a1.1) else x1)))]) ⟨rfl, trivial⟩ ?_
   exact ⟨if (w64 (x4 + a1.1)) > x1 then w64 (x4 + a1.1) else x1, rfl, rfl, ((Keep.of hB4).then hB6).below, hC6⟩
  replace hr2 := ite_f hr2 hc2
  refine W_skip ?_
  have hq4 := Option.some.inj hr2
  subst hq4
  have hC7 := hC2.h0
  refine nrm_sub (l' := [(8, (.int .i64 x1))]) ⟨rfl, trivial⟩ ?_
  exact ⟨x1, rfl, rfl, (Below.refl _ _), hC7⟩
 rintro l2 _ w3 hs2 ⟨x3, rfl, rfl, hB3, hC3⟩
 try dsimp only at hF
 refine nrm_sub' hs2 ?_
 clear hs2
 refine W_seq ?_
 refine W_seq_reg ?_
 refine WL_move rfl rfl ?_
 refine WL_gtr rfl rfl rfl ?_
 refine WL_nil ?_
 refine W_cond rfl (fun hc3 => ?_) (fun hc3 => ?_)
 ·replace hF := ite_t hF hc3
  refine W_seq_reg ?_
  refine WL_assign rfl rfl ?_
  refine WL_assign rfl rfl ?_
  refine WL_nil ?_
  refine W_ret ?_
  refine nrm_ret ?_
  have hq5 := Option.some.inj hF
  subst hq5
  refine fn_ret2 rfl rfl rfl ?_
  have hC8 := hC3.triv (bool_val (false))
  have hC9 := hC8.triv (int_val (0))
  exact ⟨_, rfl, res2_of hC9⟩
 replace hF := ite_f hF hc3
 refine W_skip ?_
 refine nrm_normal ?_
 refine W_seq_reg ?_
 refine WL_move rfl rfl ?_
 refine WL_assign rfl rfl ?_
 refine WL_assign rfl rfl ?_
 refine WL_nil ?_
 refine W_ret ?_
 have hq6 := Option.some.inj hF
 subst hq6
 refine fn_ret2 rfl rfl rfl ?_
 have hC10 := hC3.triv (bool_val (true))
 have hC11 := hC10.triv (int_val (x3))
 exact ⟨_, rfl, res2_of hC11⟩

theorem c_M_ScheduleLog {w0 : World} (a1 : (List (Int × (List Int) × Int × Int × Int))) (u1 : Value) (g1 : RO [] w0 u1 a1) (a2 : (List (Int × (List Int)))) (u2 : Value) (g2 : RO [] w0 u2 a2) (a3 : Int) (a4 : Int) (rr : ((List Int) × Bool)) (hF : M.ScheduleLog a1 a2 a3 a4 = some rr) :
 Calls Try.prog 10 [u1, u2, (.int .i64 a3), (.int .i64 a4)].toArray w0 fun e w' => ∃ v, e = .returned v ∧ Res2 w0 rr.1 rr.2 v w' := by
 refine calls_of_W Try.func10 rfl rfl ?_
 have hC0 := Ctx.start w0
 unfold M.ScheduleLog at hF
 refine W_seq_reg ?_
 refine WL_assign rfl rfl ?_
 refine WL_assign rfl rfl ?_
 refine WL_nil ?_
 refine W_seq ?_
 obtain ⟨r1, hr1, hF⟩ := bind_some hF
 refine W_cut (fun l w => ∃ x1 : Bool, x1 = r1 ∧ l = [(0, u1), (1, u2), (2, (.int .i64 a3)), (3, (.int .i64 a4)), (28, (.bool x1))] ∧ Below w0.heap.size w0 w ∧ Ctx [] w0 w []) ?_ ?_
 ·refine W_reg ?_
  refine WL_move rfl rfl ?_
  obtain ⟨x2, hr2, hr1⟩ := bind_some hr1
  refine WL_call Try.call28 rfl rfl (c_M_within a3 1 100 x2 hr2) ?_
  intro _ w2 hv1
  obtain ⟨rfl, hB2⟩ := res_bool hv1
  have hC2 := hC0.grow hB2
  refine WL_not rfl rfl ?_
  refine WL_move rfl rfl ?_
  refine WL_fork (fun hc1 => ?_) (fun hc1 => ?_)
  ·replace hr1 := ite_t hr1 hc1
   refine WL_guard_skip rfl rfl (by simp) rfl ?_
   refine WL_guard_skip rfl rfl (by simp) rfl ?_
   refine WL_guard_skip rfl rfl (by simp) rfl ?_
   refine WL_pick_t rfl rfl rfl ?_
   refine WL_move rfl rfl ?_
   refine WL_guard_skip rfl rfl (by simp) rfl ?_
   refine WL_guard_skip rfl rfl (by simp) rfl ?_
   refine WL_guard_skip rfl rfl (by simp) rfl ?_
   refine WL_pick_t rfl rfl rfl ?_
   refine WL_nil ?_
   have hq1 := Option.some.inj hr1
   subst hq1
   refine nrm_sub (l' := [(0, u1), (1, u2), (2, (.int .i64 a3)), (3, (.int .i64 a4)), (28, (.bool true))]) ⟨rfl, rfl, rfl, rfl, rfl, trivial⟩ ?_
   exact ⟨true, rfl, rfl, (Keep.of hB2).below, hC2⟩
  replace hr1 := ite_f hr1 hc1
  refine WL_guard rfl rfl ?_
  refine WL_move rfl rfl ?_
  obtain ⟨x3, hr3, hr1⟩ := bind_some hr1
  refine WL_guard rfl rfl ?_
  refine WL_call Try.call29 rfl rfl (c_M_isTime a4 x3 hr3) ?_
  intro _ w3 hv2
  obtain ⟨rfl, hB3⟩ := res_bool hv2
  have hC3 := hC2.grow hB3
  refine WL_guard rfl rfl ?_
  refine WL_not rfl rfl ?_
  refine WL_pick_f rfl rfl rfl ?_
  refine WL_move rfl rfl ?_
  refine WL_fork (fun hc2 => ?_) (fun hc2 => ?_)
  ·replace hr1 := ite_t hr1 hc2
   refine WL_guard_skip rfl rfl (by simp) rfl ?_
   refine WL_guard_skip rfl rfl (by simp) rfl ?_
   refine WL_guard_skip rfl rfl (by simp) rfl ?_
   refine WL_pick_t rfl rfl rfl ?_
   refine WL_nil ?_
   have hq2 := Option.some.inj hr1
   subst hq2
   refine nrm_sub (l' := [(0, u1), (1, u2), (2, (.int .i64 a3)), (3, (.int .i64 a4)), (28, (.bool true))]) ⟨rfl, rfl, rfl, rfl, rfl, trivial⟩ ?_
   exact ⟨true, rfl, rfl, ((Keep.of hB2).then hB3).below, hC3⟩
  replace hr1 := ite_f hr1 hc2
  refine WL_guard rfl rfl ?_
  refine WL_move rfl rfl ?_
  refine WL_guard rfl rfl ?_
  refine WL_len Try.underlying31 g2 rfl rfl ?_
  refine WL_guard rfl rfl ?_
  refine WL_gtr rfl rfl rfl ?_
  refine WL_pick_f rfl rfl rfl ?_
  refine WL_nil ?_
  have hq3 := Option.some.inj hr1
  subst hq3
  refine nrm_sub (l' := [(0, u1), (1, u2), (2, (.int .i64 a3)), (3, (.int .i64 a4)), (28, (.bool (decide (100 < (List.length a2 : Int)))))]) ⟨rfl, rfl, rfl, rfl, rfl, trivial⟩ ?_
  exact ⟨(decide (100 < (List.length a2 : Int))), rfl, rfl, ((Keep.of hB2).then hB3).below, hC3⟩
 rintro _ w1 ⟨x1, rfl, rfl, hB1, hC1⟩
 try dsimp only at hF
 refine W_cond rfl (fun hc3 => ?_) (fun hc3 => ?_)
 ·replace hF := ite_t hF hc3
  refine W_seq_reg ?_
  refine WL_assign rfl rfl ?_
  refine WL_assign rfl rfl ?_
  refine WL_nil ?_
  refine W_ret ?_
  refine nrm_ret ?_
  have hq4 := Option.some.inj hF
  subst hq4
  refine fn_ret2 rfl rfl rfl ?_
  have hC4 := hC1.triv (bool_val (false))
  have hC5 := hC4.triv (nil_val (α := Int))
  exact ⟨_, rfl, res2_of hC5⟩
 replace hF := ite_f hF hc3
 refine W_skip ?_
 refine nrm_normal ?_
 refine W_seq_reg ?_
 refine WL_buildSlice (vs := []) hC1 Try.underlying26 ty3 rfl rfl rfl rfl (by simp) rfl rfl (fun b1 w4 hC6 hB4 => ?_)
 have hC7 := hC6.row0 (α := Int)
 have hC8 := hC7.front 1 rfl
 dsimp only [List.eraseIdx, List.cons_append, List.nil_append, List.append_nil] at hC8
 have hC9 : Ctx [] w0 w4 (Item.own (.slice (some ⟨b1, 0, none⟩) 0 0) (([] : List Int) : List Int) :: []) := hC8.rowOwn (by simp [maxLen])
 refine WL_assign rfl rfl ?_
 refine WL_nil ?_
 refine W_seq_reg ?_
 refine WL_makeMap (α := Int) hC9 rfl (fun b2 w5 hC10 hB5 => ?_)
 refine WL_assign rfl rfl ?_
 refine WL_nil ?_
 refine W_seq ?_
 refine W_seq_reg ?_
 refine WL_move rfl rfl ?_
 refine WL_len Try.underlying31 g2 rfl rfl ?_
 refine WL_move rfl rfl ?_
 refine WL_nil ?_
 obtain ⟨r2, hr4, hF⟩ := bind_some hF
 refine W_norm (fun l w => ∃ x8 : (List (Int × List Int)), ∃ v2 : Value, ∃ x9 : (List Int), .inl (x8, x9) = r2 ∧ l = [(10, v2)] ∧ Ctx [] w0 w [Item.own v2 (x9 : (List Int))]) ?_ ?_
 ·refine W_block ?_
  refine W.sub (l' := [(0, u1), (2, (.int .i64 a3)), (3, (.int .i64 a4)), (10, (.slice (some ⟨b1, 0, none⟩) 0 0)), (11, (.map (some b2))), (31, u2), (32, (.int .i64 (List.length a2 : Int))), (33, (.int .i64 0))]) ?_ ⟨rfl, rfl, rfl, rfl, rfl, rfl, rfl, rfl, trivial⟩
  refine W_loop (fun k l w => ∃ x4 : (List (Int × List Int)), ∃ x5 : Int, ∃ v1 : Value, ∃ x6 : (List Int), ∃ x7 : Int, l = [(0, u1), (2, (.int .i64 a3)), (3, (.int .i64 x5)), (10, v1), (11, (.map (some b2))), (31, u2), (32, (.int .i64 (List.length a2 : Int))), (33, (.int .i64 x7))] ∧ Ctx [] w0 w [Item.imap b2 (x4 : (List (Int × List Int))), Item.own v1 (x6 : (List Int))] ∧ M.ScheduleLog_l1 a2 a1 a3 k x4 x5 x6 x7 = some r2) FUEL ⟨([] : (List (Int × List Int))), a4, (.slice (some ⟨b1, 0, none⟩) 0 0), ([] : List Int), 0, rfl, hC10, hr4⟩ ?_
  clear hr4
  rintro k1 _ w6 ⟨x4, x5, v1, x6, x7, rfl, hC11, hL1⟩
  cases k1 with
  | zero => rw [M.ScheduleLog_l1] at hL1; cases hL1
  | succ k1 =>
   rw [M.ScheduleLog_l1] at hL1
   refine W_seq_reg ?_
   refine WL_lss rfl rfl rfl ?_
   refine WL_nil ?_
   refine W_seq ?_
   refine W_cond rfl (fun hc4 => ?_) (fun hc4 => ?_)
   ·replace hL1 := ite_t hL1 hc4
    refine W_skip ?_
    refine nrm_normal ?_
    refine W_seq ?_
    refine W_block ?_
    refine W_seq_reg ?_
    obtain ⟨x10, hx1, hL1⟩ := bind_some hL1
    refine WL_index Try.underlying31 ty45 g2 hx1 rfl rfl rfl (fun b3 o1 h1 => ?_)
    refine WL_load ty45 h1 hC11.keep rfl rfl (fun v3 h2 => ?_)
    obtain ⟨v4, rfl, h3⟩ := ro_st45 h2
    refine WL_allocK hC11 zero45 rfl rfl (fun b4 w7 hC12 hB7 hN1 => ?_)
    refine WL_store_box_aggK (cs' := [(.int .i64 x10.1), v4]) (new := [(.int .i64 x10.1), v4]) hC12 0 rfl rfl (by intro v hv; simp only [List.mem_cons, List.not_mem_nil, or_false] at hv; rcases hv with rfl | rfl; exact rfl; exact (ro_one h3)) rfl Try.sizeOf45 rfl rfl (fun w9 hC13 hKp1 => ?_)
    try dsimp only [List.set] at hC13
    have hk1 := Keep.over (Keep.of hB7) hN1 hKp1
    refine WL_nil ?_
    refine W_seq ?_
    obtain ⟨r3, hr5, hL1⟩ := bind_some hL1
    refine W_cut (fun l w => ∃ x11 : Bool, x11 = r3 ∧ l = [(0, u1), (2, (.int .i64 a3)), (3, (.int .i64 x5)), (10, v1), (11, (.map (some b2))), (13, (ptr b4 0)), (31, u2), (32, (.int .i64 (List.length a2 : Int))), (33, (.int .i64 x7)), (53, (.bool x11))] ∧ Below w9.heap.size w9 w ∧ Ctx [] w0 w [Item.box b4 [(.int .i64 x10.1), v4], Item.imap b2 (x4 : (List (Int × List Int))), Item.own v1 (x6 : (List Int))]) ?_ ?_
    ·refine W_reg ?_
     refine WL_field Try.underlying45 rfl rfl (fun w => ⟨_, Try.sizeOf3 w⟩) rfl rfl ?_
     refine WL_load_box hC13 0 rfl rfl Try.isAgg3 rfl rfl ?_
     refine WL_move rfl rfl ?_
     refine WL_len Try.underlying29 g1 rfl rfl ?_
     refine WL_sub rfl rfl rfl ?_
     obtain ⟨x12, hr6, hr5⟩ := bind_some hr5
     refine WL_call Try.call28 rfl rfl (c_M_within x10.1 0 (w64 ((List.length a1 : Int) - 1)) x12 hr6) ?_
     intro _ w11 hv3
     obtain ⟨rfl, hB9⟩ := res_bool hv3
     have hC15 := hC13.grow hB9
     refine WL_not rfl rfl ?_
     refine WL_move rfl rfl ?_
     refine WL_fork (fun hc5 => ?_) (fun hc5 => ?_)
     ·replace hr5 := ite_t hr5 hc5
      refine WL_guard_skip rfl rfl (by simp) rfl ?_
      refine WL_guard_skip rfl rfl (by simp) rfl ?_
      refine WL_guard_skip rfl rfl (by simp) rfl ?_
      refine WL_guard_skip rfl rfl (by simp) rfl ?_
      refine WL_guard_skip rfl rfl (by simp) rfl ?_
      refine WL_guard_skip rfl rfl (by simp) rfl ?_
      refine WL_guard_skip rfl rfl (by simp) rfl ?_
      refine WL_guard_skip rfl rfl (by simp) rfl ?_
      refine WL_pick_t rfl rfl rfl ?_
      refine WL_nil ?_
      have hq5 := Option.some.inj hr5
      subst hq5
      refine nrm_sub (l' := [(0, u1), (2, (.int .i64 a3)), (3, (.int .i64 x5)), (10, v1), (11, (.map (some b2))), (13, (ptr b4 0)), (31, u2), (32, (.int .i64 (List.length a2 : Int))), (33, (.int .i64 x7)), (53, (.bool true))]) ⟨rfl, rfl, rfl, rfl, rfl, rfl, rfl, rfl, rfl, rfl, trivial⟩ ?_
      exact ⟨true, rfl, rfl, (Keep.of hB9).below, hC15⟩
     replace hr5 := ite_f hr5 hc5
     refine WL_guard rfl rfl ?_
     refine WL_move rfl rfl ?_
     refine WL_guard rfl rfl ?_
     refine WL_field Try.underlying45 rfl rfl (fun w => ⟨_, Try.sizeOf3 w⟩) rfl rfl ?_
     refine WL_guard rfl rfl ?_
     refine WL_load_box hC15 0 rfl rfl Try.isAgg3 rfl rfl ?_
     obtain ⟨x13, hx2, hr5⟩ := bind_some hr5
     refine WL_guard rfl rfl ?_
     refine WL_index Try.underlying29 ty47 g1 hx2 rfl rfl rfl (fun b5 o2 h4 => ?_)
     refine WL_guard rfl rfl ?_
     refine WL_field Try.underlying47 rfl rfl (fun w => ⟨_, Try.sizeOf3 w⟩) rfl rfl ?_
     refine WL_guard rfl rfl ?_
     refine WL_load ty3 h4.snd.snd.snd.snd hC15.keep rfl rfl (fun v5 h5 => ?_)
     obtain rfl := ro_int h5
     obtain ⟨x14, hr7, hr5⟩ := bind_some hr5
     refine WL_guard rfl rfl ?_
     refine WL_call Try.call28 rfl rfl (c_M_within x13.2.2.2.2 1 99 x14 hr7) ?_
     intro _ w12 hv4
     obtain ⟨rfl, hB10⟩ := res_bool hv4
     have hC16 := hC15.grow hB10
     refine WL_guard rfl rfl ?_
     refine WL_not rfl rfl ?_
     refine WL_pick_f rfl rfl rfl ?_
     refine WL_nil ?_
     have hq6 := Option.some.inj hr5
     subst hq6
     refine nrm_sub (l' := [(0, u1), (2, (.int .i64 a3)), (3, (.int .i64 x5)), (10, v1), (11, (.map (some b2))), (13, (ptr b4 0)), (31, u2), (32, (.int .i64 (List.length a2 : Int))), (33, (.int .i64 x7)), (53, (.bool (!x14)))]) ⟨rfl, rfl, rfl, rfl, rfl, rfl, rfl, rfl, rfl, rfl, trivial⟩ ?_
     exact ⟨(!x14), rfl, rfl, ((Keep.of hB9).then hB10).below, hC16⟩
    rintro _ w10 ⟨x11, rfl, rfl, hB8, hC14⟩
    try dsimp only at hL1
    refine W_cond rfl (fun hc6 => ?_) (fun hc6 => ?_)
    ·replace hL1 := ite_t hL1 hc6
     refine W_seq_reg ?_
     refine WL_assign rfl rfl ?_
     refine WL_assign rfl rfl ?_
     refine WL_nil ?_
     refine W_ret ?_
     refine nrm_ret ?_
     refine blk_ret ?_
     refine nrm_ret ?_
     refine nrm_ret ?_
     refine blk_ret ?_
     refine nrm_ret ?_
     refine nrm_ret ?_
     have hq7 := Option.some.inj hL1
     subst hq7
     dsimp only at hF
     have hq8 := Option.some.inj hF
     subst hq8
     refine fn_ret2 rfl rfl rfl ?_
     have hC17 := hC14.triv (bool_val (false))
     have hC18 := hC17.triv (nil_val (α := Int))
     exact ⟨_, rfl, res2_of hC18⟩
    replace hL1 := ite_f hL1 hc6
    refine W_skip ?_
    refine nrm_normal ?_
    refine W_seq ?_
    refine W_drawn 19 rfl hmix (fun w13 hB11 => ?_)
    have hC19 := hC14.grow hB11
    refine WA_tk 0 (by kernel_rfl) rfl rfl (fl_move rfl) ?_
    refine WL_move rfl rfl ?_
    refine WL_nil ?_
    refine WA_tk 1 (by kernel_rfl) rfl rfl (fl_move rfl) ?_
    refine WL_move rfl rfl ?_
    refine WL_nil ?_
    refine WA_tk 2 (by kernel_rfl) rfl rfl (fl_field Try.underlying45 rfl rfl (fun w => ⟨_, Try.sizeOf3 w⟩) rfl) ?_
    refine WL_field Try.underlying45 rfl rfl (fun w => ⟨_, Try.sizeOf3 w⟩) rfl rfl ?_
    refine WL_nil ?_
    refine WA_tk 8 (by kernel_rfl) rfl rfl (fl_move rfl) ?_
    refine WL_move rfl rfl ?_
    refine WL_nil ?_
    refine WA_tk 9 (by kernel_rfl) rfl rfl (fl_field Try.underlying45 rfl rfl (fun w => ⟨_, Try.sizeOf3 w⟩) rfl) ?_
    refine WL_field Try.underlying45 rfl rfl (fun w => ⟨_, Try.sizeOf3 w⟩) rfl rfl ?_
    refine WL_nil ?_
    refine WA_tk 12 (by kernel_rfl) rfl rfl (fl_move rfl) ?_
    refine WL_move rfl rfl ?_
    refine WL_nil ?_
    obtain ⟨x15, hx3, hL1⟩ := bind_some hL1
    refine WA.sub (l' := [(0, u1), (2, (.int .i64 a3)), (3, (.int .i64 x5)), (10, v1), (11, (.map (some b2))), (13, (ptr b4 0)), (31, u2), (32, (.int .i64 (List.length a2 : Int))), (33, (.int .i64 x7)), (53, (.bool x11)), (55, (.int .i64 a3)), (56, u1), (57, (ptr b4 0)), (63, (.map (some b2))), (64, (ptr b4 0)), (67, (.int .i64 x5))]) ?_ ⟨rfl, rfl, rfl, rfl, rfl, rfl, rfl, rfl, rfl, rfl, rfl, rfl, rfl, rfl, rfl, rfl, trivial⟩
    refine WA_postsE [⟨3, [], fun vs => PW.val (.int .i64 x10.1), []⟩, ⟨4, [], fun vs => PW.at [] w0 x15, []⟩, ⟨5, [], fun vs => PW.at [] w0 x15.2.2.2.2, []⟩, ⟨6, [], fun vs => PW.val (.int .i64 x15.2.2.2.2), []⟩, ⟨7, [], fun vs => PW.val (.agg #[(.int .i64 a3), (.int .i64 x15.2.2.2.2)]), []⟩, ⟨10, [], fun vs => PW.val (.int .i64 x10.1), []⟩, ⟨11, [], fun vs => PW.ro [] w13 (mget x4 x10.1), []⟩] [[], [3], [4], [5], [6], [], [10]] 6 rfl (by kernel_rfl) (by kernel_rfl) rfl ?_ ?_
    ·refine StepsE_cons rfl ?_ ?_
     ·intro w14 hB12
      refine DepsE_nil ?_
      refine ⟨_, rfl, ?_⟩
      refine WL_load_box (hC19.grow hB12) 0 rfl rfl Try.isAgg3 rfl rfl ?_
      refine WL_nil ?_
      exact FinE_val (Below.refl _ _) rfl rfl ⟨rfl, rfl⟩
     refine StepsE_cons rfl ?_ ?_
     ·intro w14 hB12
      refine DepsE_cons rfl rfl rfl ?_
      rintro _ _ ⟨rfl, rfl⟩ _
      refine DepsE_nil ?_
      refine ⟨_, rfl, ?_⟩
      refine WL_index Try.underlying29 ty47 g1 hx3 rfl rfl rfl (fun b6 o3 h6 => ?_)
      refine WL_nil ?_
      exact FinE_val (Below.refl _ _) rfl rfl ⟨rfl, _, _, rfl, h6⟩
     refine StepsE_cons rfl ?_ ?_
     ·intro w14 hB12
      refine DepsE_cons rfl rfl rfl ?_
      rintro _ _ ⟨rfl, b6, o3, rfl, h6⟩ _
      refine DepsE_nil ?_
      refine ⟨_, rfl, ?_⟩
      refine WL_field Try.underlying47 rfl rfl (fun w => ⟨_, Try.sizeOf3 w⟩) rfl rfl ?_
      refine WL_nil ?_
      exact FinE_val (Below.refl _ _) rfl rfl ⟨rfl, _, _, rfl, h6.snd.snd.snd.snd⟩
     refine StepsE_cons rfl ?_ ?_
     ·intro w14 hB12
      refine DepsE_cons rfl rfl rfl ?_
      rintro _ _ ⟨rfl, b7, o4, rfl, h7⟩ _
      refine DepsE_nil ?_
      refine ⟨_, rfl, ?_⟩
      refine WL_load ty3 h7 (hC19.keep.then hB12) rfl rfl (fun v6 h8 => ?_)
      obtain rfl := ro_int h8
      refine WL_nil ?_
      exact FinE_val (Below.refl _ _) rfl rfl ⟨rfl, rfl⟩
     refine StepsE_cons rfl ?_ ?_
     ·intro w14 hB12
      refine DepsE_cons rfl rfl rfl ?_
      rintro _ _ ⟨rfl, rfl⟩ _
      refine DepsE_nil ?_
      refine ⟨_, rfl, ?_⟩
      refine WL_build (vs := [(0, (.int .i64 a3)), (1, (.int .i64 x15.2.2.2.2))]) rfl rfl rfl (built49_0_1 rfl rfl) ?_
      refine WL_nil ?_
      exact FinE_val (Below.refl _ _) rfl rfl ⟨rfl, rfl⟩
     refine StepsE_cons rfl ?_ ?_
     ·intro w14 hB12
      refine DepsE_nil ?_
      refine ⟨_, rfl, ?_⟩
      refine WL_load_box (hC19.grow hB12) 0 rfl rfl Try.isAgg3 rfl rfl ?_
      refine WL_nil ?_
      exact FinE_val (Below.refl _ _) rfl rfl ⟨rfl, rfl⟩
     refine StepsE_cons rfl ?_ ?_
     ·intro w14 hB12
      refine DepsE_cons rfl rfl rfl ?_
      rintro _ _ ⟨rfl, rfl⟩ _
      refine DepsE_nil ?_
      refine ⟨_, rfl, ?_⟩
      refine WL_lookup hC19 1 rfl (Keep.of hB12) Try.underlying61 Try.underlying3 zero26 rfl rfl rfl (fun v7 h9 => ?_)
      refine WL_nil ?_
      exact FinE_val (Below.refl _ _) rfl rfl ⟨rfl, h9⟩
     exact StepsE_nil
    intro w15 hB13
    refine AllE_cons rfl rfl rfl ?_
    rintro _ _ ⟨rfl, rfl⟩
    refine AllE_cons rfl rfl rfl ?_
    rintro _ _ ⟨rfl, b6, o3, rfl, h6⟩
    refine AllE_cons rfl rfl rfl ?_
    rintro _ _ ⟨rfl, b7, o4, rfl, h7⟩
    refine AllE_cons rfl rfl rfl ?_
    rintro _ _ ⟨rfl, rfl⟩
    refine AllE_cons rfl rfl rfl ?_
    rintro _ _ ⟨rfl, rfl⟩
    refine AllE_cons rfl rfl rfl ?_
    rintro _ _ ⟨rfl, rfl⟩
    refine AllE_cons rfl rfl rfl ?_
    rintro v7 _ ⟨rfl, h9⟩
    refine AllE_nil ?_
    intro hn1 hb1
    have hC20 := hC19.grow hB13
    obtain ⟨x16, hr8, hL1⟩ := bind_some hL1
    refine WA_one 13 (by kernel_rfl) rfl ?_
    refine WL_call Try.call30 rfl rfl (c_M_Window_next (a3, x15.2.2.2.2) (mget x4 x10.1) v7 (h9.now (Keep.of hB13)) x5 x16 hr8) ?_
    rintro _ w16 ⟨hB14, v8, v9, F1, F2, rfl, hv5, hv6, hn2, hb2⟩
    obtain ⟨rfl, rfl⟩ := val_int hv5
    obtain ⟨rfl, rfl⟩ := val_bool hv6
    have hC21 := hC20.grow hB14
    refine WL_nil ?_
    refine WA_tk 14 (by kernel_rfl) rfl rfl (fl_move rfl) ?_
    refine WL_move rfl rfl ?_
    refine WL_nil ?_
    refine WA_tk 15 (by kernel_rfl) rfl rfl (fl_extract rfl rfl) ?_
    refine WL_extract rfl rfl rfl ?_
    refine WL_nil ?_
    refine WA_tk 16 (by kernel_rfl) rfl rfl (fl_extract rfl rfl) ?_
    refine WL_extract rfl rfl rfl ?_
    refine WL_nil ?_
    refine WA_tk 17 (by kernel_rfl) rfl rfl (fl_assign rfl) ?_
    refine WL_assign rfl rfl ?_
    refine WL_nil ?_
    refine WA_tk 18 (by kernel_rfl) rfl rfl (fl_assign rfl) ?_
    refine WL_assign rfl rfl ?_
    refine WL_nil ?_
    refine WA_done (by kernel_rfl) ?_
    refine nrm_normal ?_
    refine W_seq ?_
    refine W_seq_reg ?_
    refine WL_move rfl rfl ?_
    refine WL_not rfl rfl ?_
    refine WL_nil ?_
    refine W_cond rfl (fun hc7 => ?_) (fun hc7 => ?_)
    ·replace hL1 := ite_t hL1 hc7
     refine W_seq_reg ?_
     refine WL_assign rfl rfl ?_
     refine WL_assign rfl rfl ?_
     refine WL_nil ?_
     refine W_ret ?_
     refine nrm_ret ?_
     refine blk_ret ?_
     refine nrm_ret ?_
     refine nrm_ret ?_
     refine blk_ret ?_
     refine nrm_ret ?_
     refine nrm_ret ?_
     have hq9 := Option.some.inj hL1
     subst hq9
     dsimp only at hF
     have hq10 := Option.some.inj hF
     subst hq10
     refine fn_ret2 rfl rfl rfl ?_
     have hC22 := hC21.triv (bool_val (false))
     have hC23 := hC22.triv (nil_val (α := Int))
     exact ⟨_, rfl, res2_of hC23⟩
    replace hL1 := ite_f hL1 hc7
    refine W_skip ?_
    refine nrm_normal ?_
    obtain ⟨r4, hr9, hL1⟩ := bind_some hL1
    refine W_cut (fun l w => ∃ x17 : (List (Int × List Int)), x17 = r4 ∧ l = [(0, u1), (2, (.int .i64 a3)), (10, v1), (11, (.map (some b2))), (14, (.int .i64 x16.1)), (31, u2), (32, (.int .i64 (List.length a2 : Int))), (33, (.int .i64 x7))] ∧ Ctx [] w0 w [Item.imap b2 (x17 : (List (Int × List Int))), Item.own v1 (x6 : (List Int))]) ?_ ?_
    ·have hC25 := hC21.f1
     obtain ⟨v10, hC26⟩ := hC25.openMap x10.1
     refine W_drawn 11 rfl hmix (fun w18 hB16 => ?_)
     have hC27 := hC26.grow hB16
     refine WA_tk 0 (by kernel_rfl) rfl rfl (fl_move rfl) ?_
     refine WL_move rfl rfl ?_
     refine WL_nil ?_
     refine WA_tk 1 (by kernel_rfl) rfl rfl (fl_field Try.underlying45 rfl rfl (fun w => ⟨_, Try.sizeOf3 w⟩) rfl) ?_
     refine WL_field Try.underlying45 rfl rfl (fun w => ⟨_, Try.sizeOf3 w⟩) rfl rfl ?_
     refine WL_nil ?_
     refine WA_tk 3 (by kernel_rfl) rfl rfl (fl_move rfl) ?_
     refine WL_move rfl rfl ?_
     refine WL_nil ?_
     refine WA_tk 4 (by kernel_rfl) rfl rfl (fl_field Try.underlying45 rfl rfl (fun w => ⟨_, Try.sizeOf3 w⟩) rfl) ?_
     refine WL_field Try.underlying45 rfl rfl (fun w => ⟨_, Try.sizeOf3 w⟩) rfl rfl ?_
     refine WL_nil ?_
     refine WA_tk 7 (by kernel_rfl) rfl rfl (fl_move rfl) ?_
     refine WL_move rfl rfl ?_
     refine WL_nil ?_
     refine WA_all3 (i := 2) (j := 5) (m := 8) (by kernel_rfl) rfl rfl rfl ?_ ?_ ?_
     ·refine WL_load_box hC27 2 rfl rfl Try.isAgg3 rfl rfl ?_
      refine WL_nil ?_
      refine WA.sub (l' := [(0, u1), (2, (.int .i64 a3)), (3, (.int .i64 x5)), (10, v1), (11, (.map (some b2))), (13, (ptr b4 0)), (14, (.int .i64 x16.1)), (15, (.bool x16.2)), (31, u2), (32, (.int .i64 (List.length a2 : Int))), (33, (.int .i64 x7)), (53, (.bool x11)), (54, (.tuple #[(.int .i64 x16.1), (.bool x16.2)])), (55, (.int .i64 a3)), (56, u1), (57, (ptr b4 0)), (58, (.int .i64 x10.1)), (59, (ptr b6 o3)), (60, (ptr b7 o4)), (61, (.int .i64 x15.2.2.2.2)), (62, (.agg #[(.int .i64 a3), (.int .i64 x15.2.2.2.2)])), (63, (.map (some b2))), (64, (ptr b4 0)), (65, (.int .i64 x10.1)), (66, v7), (67, (.int .i64 x5)), (68, (.tuple #[(.int .i64 x16.1), (.bool x16.2)])), (69, (.int .i64 x16.1)), (70, (.bool x16.2)), (71, (.bool x16.2)), (72, (.bool (!x16.2))), (73, (.map (some b2))), (74, (ptr b4 0)), (75, (.int .i64 x10.1)), (76, (.map (some b2))), (77, (ptr b4 0)), (80, (.int .i64 x16.1))]) ?_ ⟨rfl, rfl, rfl, rfl, rfl, rfl, rfl, rfl, rfl, rfl, rfl, rfl, rfl, rfl, rfl, rfl, rfl, rfl, rfl, rfl, rfl, rfl, rfl, rfl, rfl, rfl, rfl, rfl, rfl, rfl, rfl, rfl, rfl, rfl, rfl, rfl, rfl, trivial⟩
      refine WA_postsE [⟨5, [], fun vs => PW.val (.int .i64 x10.1), []⟩, ⟨6, [], fun vs => PW.val v10, []⟩, ⟨8, [], fun vs => PW.own ([x16.1] : (List Int)), []⟩] [[], [5], []] 2 rfl (by kernel_rfl) (by kernel_rfl) rfl ?_ ?_
      ·refine StepsE_cons rfl ?_ ?_
       ·intro w20 hB18
        refine DepsE_nil ?_
        refine ⟨_, rfl, ?_⟩
        refine WL_load_box (hC27.grow hB18) 2 rfl rfl Try.isAgg3 rfl rfl ?_
        refine WL_nil ?_
        exact FinE_val (Below.refl _ _) rfl rfl ⟨rfl, rfl⟩
       refine StepsE_cons rfl ?_ ?_
       ·intro w20 hB18
        refine DepsE_cons rfl rfl rfl ?_
        rintro _ _ ⟨rfl, rfl⟩ _
        refine DepsE_nil ?_
        refine ⟨_, rfl, ?_⟩
        refine WL_lookup_hole (hC27.grow hB18) 1 rfl Try.underlying61 Try.underlying3 zero26 rfl rfl rfl ?_
        refine WL_nil ?_
        exact FinE_val (Below.refl _ _) rfl rfl ⟨rfl, rfl⟩
       refine StepsE_cons rfl ?_ ?_
       ·intro w20 hB18
        refine DepsE_nil ?_
        refine ⟨_, rfl, ?_⟩
        refine WL_buildSlice (vs := [(.int .i64 x16.1)]) (Ctx.start w20) Try.underlying26 ty3 rfl rfl rfl rfl (by intro v hv; simp only [List.mem_cons, List.not_mem_nil, or_false] at hv; rcases hv with rfl <;> rfl) rfl rfl (fun b8 w19 hC28 hB17 => ?_)
        have hC29 := hC28.row0 (α := Int)
        have hC30 := hC29.triv (int_val (x16.1))
        have hC31 := hC30.row1
        have hC32 := hC31.front 1 rfl
        dsimp only [List.eraseIdx, List.cons_append, List.nil_append, List.append_nil] at hC32
        have hC33 : Ctx [] w20 w19 (Item.own (.slice (some ⟨b8, 0, none⟩) 1 1) ([x16.1] : List Int) :: []) := hC32.rowOwn (by simp [maxLen])
        refine WL_nil ?_
        exact FinE_ctx hC33 rfl rfl (fun F h => h)
       exact StepsE_nil
      intro w21 hB19
      refine AllE_cons rfl rfl rfl ?_
      rintro _ _ ⟨rfl, rfl⟩
      refine AllE_cons rfl rfl rfl ?_
      rintro _ _ ⟨rfl, rfl⟩
      refine AllE_cons rfl rfl rfl ?_
      intro v11 F3 hv7
      refine AllE_nil ?_
      intro hn3 hb3
      have hC34 := hC27.pushL hB19 (Bs := [Item.own v11 ([x16.1] : (List Int))]) (Fs := [F3]) ⟨F3, _, rfl, hv7, rfl⟩ (by simpa using hn3) (fun b h => (hb3 b (by simpa using h)).1)
      obtain ⟨x18, hx4, hr9⟩ := bind_some hr9
      refine WA_one 9 (by kernel_rfl) rfl ?_
      refine WL_append_flat (α := Int) hC34 1 rfl (hC34.ro 0 rfl) (Keep.refl _ _) Try.underlying26 ty3 rfl hx4 rfl rfl rfl (fun v12 w22 hC35 => ?_)
      try dsimp only [List.set] at hC35
      refine WL_nil ?_
      refine WA_one 10 (by kernel_rfl) rfl ?_
      have hC36 := hC35.f1
      refine WL_mapUpdate hC36 1 rfl Try.underlying61 Try.underlying3 rfl rfl rfl (fun w23 hC37 => ?_)
      try dsimp only [List.set] at hC37
      refine WL_nil ?_
      refine WA_done (by kernel_rfl) ?_
      have hq11 := Option.some.inj hr9
      subst hq11
      have hC38 := hC37.f3
      have hC39 := hC38.f2
      have hC40 := hC39.h2
      refine nrm_sub (l' := [(0, u1), (2, (.int .i64 a3)), (10, v1), (11, (.map (some b2))), (14, (.int .i64 x16.1)), (31, u2), (32, (.int .i64 (List.length a2 : Int))), (33, (.int .i64 x7))]) ⟨rfl, rfl, rfl, rfl, rfl, rfl, rfl, rfl, trivial⟩ ?_
      exact ⟨(mset x4 x10.1 x18), rfl, rfl, hC40⟩
     ·refine WL_load_box hC27 2 rfl rfl Try.isAgg3 rfl rfl ?_
      refine WL_nil ?_
      refine WA_all3 (i := 2) (j := 6) (m := 8) (by kernel_rfl) rfl rfl rfl ?_ ?_ ?_
      ·refine WL_load_box hC27 2 rfl rfl Try.isAgg3 rfl rfl ?_
       refine WL_nil ?_
       refine WA.sub (l' := [(0, u1), (2, (.int .i64 a3)), (3, (.int .i64 x5)), (10, v1), (11, (.map (some b2))), (13, (ptr b4 0)), (14, (.int .i64 x16.1)), (15, (.bool x16.2)), (31, u2), (32, (.int .i64 (List.length a2 : Int))), (33, (.int .i64 x7)), (53, (.bool x11)), (54, (.tuple #[(.int .i64 x16.1), (.bool x16.2)])), (55, (.int .i64 a3)), (56, u1), (57, (ptr b4 0)), (58, (.int .i64 x10.1)), (59, (ptr b6 o3)), (60, (ptr b7 o4)), (61, (.int .i64 x15.2.2.2.2)), (62, (.agg #[(.int .i64 a3), (.int .i64 x15.2.2.2.2)])), (63, (.map (some b2))), (64, (ptr b4 0)), (65, (.int .i64 x10.1)), (66, v7), (67, (.int .i64 x5)), (68, (.tuple #[(.int .i64 x16.1), (.bool x16.2)])), (69, (.int .i64 x16.1)), (70, (.bool x16.2)), (71, (.bool x16.2)), (72, (.bool (!x16.2))), (73, (.map (some b2))), (74, (ptr b4 0)), (75, (.int .i64 x10.1)), (76, (.map (some b2))), (77, (ptr b4 0)), (78, (.int .i64 x10.1)), (80, (.int .i64 x16.1))]) ?_ ⟨rfl, rfl, rfl, rfl, rfl, rfl, rfl, rfl, rfl, rfl, rfl, rfl, rfl, rfl, rfl, rfl, rfl, rfl, rfl, rfl, rfl, rfl, rfl, rfl, rfl, rfl, rfl, rfl, rfl, rfl, rfl, rfl, rfl, rfl, rfl, rfl, rfl, rfl, trivial⟩
       refine WA_postsE [⟨6, [], fun vs => PW.val v10, []⟩, ⟨8, [], fun vs => PW.own ([x16.1] : (List Int)), []⟩] [[], []] 2 rfl (by kernel_rfl) (by kernel_rfl) rfl ?_ ?_
       ·refine StepsE_cons rfl ?_ ?_
        ·intro w20 hB18
         refine DepsE_nil ?_
         refine ⟨_, rfl, ?_⟩
         refine WL_lookup_hole (hC27.grow hB18) 1 rfl Try.underlying61 Try.underlying3 zero26 rfl rfl rfl ?_
         refine WL_nil ?_
         exact FinE_val (Below.refl _ _) rfl rfl ⟨rfl, rfl⟩
        refine StepsE_cons rfl ?_ ?_
        ·intro w20 hB18
         refine DepsE_nil ?_
         refine ⟨_, rfl, ?_⟩
         refine WL_buildSlice (vs := [(.int .i64 x16.1)]) (Ctx.start w20) Try.underlying26 ty3 rfl rfl rfl rfl (by intro v hv; simp only [List.mem_cons, List.not_mem_nil, or_false] at hv; rcases hv with rfl <;> rfl) rfl rfl (fun b8 w19 hC28 hB17 => ?_)
         have hC29 := hC28.row0 (α := Int)
         have hC30 := hC29.triv (int_val (x16.1))
         have hC31 := hC30.row1
         have hC32 := hC31.front 1 rfl
         dsimp only [List.eraseIdx, List.cons_append, List.nil_append, List.append_nil] at hC32
         have hC33 : Ctx [] w20 w19 (Item.own (.slice (some ⟨b8, 0, none⟩) 1 1) ([x16.1] : List Int) :: []) := hC32.rowOwn (by simp [maxLen])
         refine WL_nil ?_
         exact FinE_ctx hC33 rfl rfl (fun F h => h)
        exact StepsE_nil
       intro w21 hB19
       refine AllE_cons rfl rfl rfl ?_
       rintro _ _ ⟨rfl, rfl⟩
       refine AllE_cons rfl rfl rfl ?_
       intro v11 F3 hv7
       refine AllE_nil ?_
       intro hn3 hb3
       have hC34 := hC27.pushL hB19 (Bs := [Item.own v11 ([x16.1] : (List Int))]) (Fs := [F3]) ⟨F3, _, rfl, hv7, rfl⟩ (by simpa using hn3) (fun b h => (hb3 b (by simpa using h)).1)
       obtain ⟨x18, hx4, hr9⟩ := bind_some hr9
       refine WA_one 9 (by kernel_rfl) rfl ?_
       refine WL_append_flat (α := Int) hC34 1 rfl (hC34.ro 0 rfl) (Keep.refl _ _) Try.underlying26 ty3 rfl hx4 rfl rfl rfl (fun v12 w22 hC35 => ?_)
       try dsimp only [List.set] at hC35
       refine WL_nil ?_
       refine WA_one 10 (by kernel_rfl) rfl ?_
       have hC36 := hC35.f1
       refine WL_mapUpdate hC36 1 rfl Try.underlying61 Try.underlying3 rfl rfl rfl (fun w23 hC37 => ?_)
       try dsimp only [List.set] at hC37
       refine WL_nil ?_
       refine WA_done (by kernel_rfl) ?_
       have hq11 := Option.some.inj hr9
       subst hq11
       have hC38 := hC37.f3
       have hC39 := hC38.f2
       have hC40 := hC39.h2
       refine nrm_sub (l' := [(0, u1), (2, (.int .i64 a3)), (10, v1), (11, (.map (some b2))), (14, (.int .i64 x16.1)), (31, u2), (32, (.int .i64 (List.length a2 : Int))), (33, (.int .i64 x7))]) ⟨rfl, rfl, rfl, rfl, rfl, rfl, rfl, rfl, trivial⟩ ?_
       exact ⟨(mset x4 x10.1 x18), rfl, rfl, hC40⟩
      ·refine WL_lookup_hole hC27 1 rfl Try.underlying61 Try.underlying3 zero26 rfl rfl rfl ?_
       refine WL_nil ?_
       refine WA_all2 (i := 2) (j := 8) (by kernel_rfl) rfl rfl ?_ ?_
       ·refine WL_load_box hC27 2 rfl rfl Try.isAgg3 rfl rfl ?_
        refine WL_nil ?_
        refine WA_one 8 (by kernel_rfl) rfl ?_
        refine WL_buildSlice (vs := [(.int .i64 x16.1)]) hC27 Try.underlying26 ty3 rfl rfl rfl rfl (by intro v hv; simp only [List.mem_cons, List.not_mem_nil, or_false] at hv; rcases hv with rfl <;> rfl) rfl rfl (fun b8 w19 hC28 hB17 => ?_)
        have hC29 := hC28.row0 (α := Int)
        have hC30 := hC29.triv (int_val (x16.1))
        have hC31 := hC30.row1
        have hC32 := hC31.front 1 rfl
        dsimp only [List.eraseIdx, List.cons_append, List.nil_append, List.append_nil] at hC32
        have hC33 : Ctx [] w0 w19 (Item.own (.slice (some ⟨b8, 0, none⟩) 1 1) ([x16.1] : List Int) :: [Item.own v10 ((mget x4 x10.1) : (List Int)), Item.mhole b2 (x4 : (List (Int × List Int))) x10.1 v10, Item.box b4 [(.int .i64 x10.1), v4], Item.own v1 (x6 : (List Int))]) := hC32.rowOwn (by simp [maxLen])
        refine WL_nil ?_
        obtain ⟨x18, hx4, hr9⟩ := bind_some hr9
        refine WA_one 9 (by kernel_rfl) rfl ?_
        refine WL_append_flat (α := Int) hC33 1 rfl (hC33.ro 0 rfl) (Keep.refl _ _) Try.underlying26 ty3 rfl hx4 rfl rfl rfl (fun v11 w20 hC34 => ?_)
        try dsimp only [List.set] at hC34
        refine WL_nil ?_
        refine WA_one 10 (by kernel_rfl) rfl ?_
        have hC35 := hC34.f1
        refine WL_mapUpdate hC35 1 rfl Try.underlying61 Try.underlying3 rfl rfl rfl (fun w21 hC36 => ?_)
        try dsimp only [List.set] at hC36
        refine WL_nil ?_
        refine WA_done (by kernel_rfl) ?_
        have hq11 := Option.some.inj hr9
        subst hq11
        have hC37 := hC36.f3
        have hC38 := hC37.f2
        have hC39 := hC38.h2
        refine nrm_sub (l' := [(0, u1), (2, (.int .i64 a3)), (10, v1), (11, (.map (some b2))), (14, (.int .i64 x16.1)), (31, u2), (32, (.int .i64 (List.length a2 : Int))), (33, (.int .i64 x7))]) ⟨rfl, rfl, rfl, rfl, rfl, rfl, rfl, rfl, trivial⟩ ?_
        exact ⟨(mset x4 x10.1 x18), rfl, rfl, hC39⟩
       refine WL_buildSlice (vs := [(.int .i64 x16.1)]) hC27 Try.underlying26 ty3 rfl rfl rfl rfl (by intro v hv; simp only [List.mem_cons, List.not_mem_nil, or_false] at hv; rcases hv with rfl <;> rfl) rfl rfl (fun b8 w19 hC28 hB17 => ?_)
       have hC29 := hC28.row0 (α := Int)
       have hC30 := hC29.triv (int_val (x16.1))
       have hC31 := hC30.row1
       have hC32 := hC31.front 1 rfl
       dsimp only [List.eraseIdx, List.cons_append, List.nil_append, List.append_nil] at hC32
       have hC33 : Ctx [] w0 w19 (Item.own (.slice (some ⟨b8, 0, none⟩) 1 1) ([x16.1] : List Int) :: [Item.own v10 ((mget x4 x10.1) : (List Int)), Item.mhole b2 (x4 : (List (Int × List Int))) x10.1 v10, Item.box b4 [(.int .i64 x10.1), v4], Item.own v1 (x6 : (List Int))]) := hC32.rowOwn (by simp [maxLen])
       refine WL_nil ?_
       refine WA_all2 (i := 2) (j := 9) (by kernel_rfl) rfl rfl ?_ ?_
       ·refine WL_load_box hC33 3 rfl rfl Try.isAgg3 rfl rfl ?_
        refine WL_nil ?_
        obtain ⟨x18, hx4, hr9⟩ := bind_some hr9
        refine WA_one 9 (by kernel_rfl) rfl ?_
        refine WL_append_flat (α := Int) hC33 1 rfl (hC33.ro 0 rfl) (Keep.refl _ _) Try.underlying26 ty3 rfl hx4 rfl rfl rfl (fun v11 w20 hC34 => ?_)
        try dsimp only [List.set] at hC34
        refine WL_nil ?_
        refine WA_one 10 (by kernel_rfl) rfl ?_
        have hC35 := hC34.f1
        refine WL_mapUpdate hC35 1 rfl Try.underlying61 Try.underlying3 rfl rfl rfl (fun w21 hC36 => ?_)
        try dsimp only [List.set] at hC36
        refine WL_nil ?_
        refine WA_done (by kernel_rfl) ?_
        have hq11 := Option.some.inj hr9
        subst hq11
        have hC37 := hC36.f3
        have hC38 := hC37.f2
        have hC39 := hC38.h2
        refine nrm_sub (l' := [(0, u1), (2, (.int .i64 a3)), (10, v1), (11, (.map (some b2))), (14, (.int .i64 x16.1)), (31, u2), (32, (.int .i64 (List.length a2 : Int))), (33, (.int .i64 x7))]) ⟨rfl, rfl, rfl, rfl, rfl, rfl, rfl, rfl, trivial⟩ ?_
        exact ⟨(mset x4 x10.1 x18), rfl, rfl, hC39⟩
       obtain ⟨x18, hx4, hr9⟩ := bind_some hr9
       refine WL_append_flat (α := Int) hC33 1 rfl (hC33.ro 0 rfl) (Keep.refl _ _) Try.underlying26 ty3 rfl hx4 rfl rfl rfl (fun v11 w20 hC34 => ?_)
       try dsimp only [List.set] at hC34
       refine WL_nil ?_
       refine WA_one 2 (by kernel_rfl) rfl ?_
       refine WL_load_box hC34 3 rfl rfl Try.isAgg3 rfl rfl ?_
       refine WL_nil ?_
       refine WA_one 10 (by kernel_rfl) rfl ?_
       have hC35 := hC34.f1
       refine WL_mapUpdate hC35 1 rfl Try.underlying61 Try.underlying3 rfl rfl rfl (fun w21 hC36 => ?_)
       try dsimp only [List.set] at hC36
       refine WL_nil ?_
       refine WA_done (by kernel_rfl) ?_
       have hq11 := Option.some.inj hr9
       subst hq11
       have hC37 := hC36.f3
       have hC38 := hC37.f2
       have hC39 := hC38.h2
       refine nrm_sub (l' := [(0, u1), (2, (.int .i64 a3)), (10, v1), (11, (.map (some b2))), (14, (.int .i64 x16.1)), (31, u2), (32, (.int .i64 (List.length a2 : Int))), (33, (.int .i64 x7))]) ⟨rfl, rfl, rfl, rfl, rfl, rfl, rfl, rfl, trivial⟩ ?_
       exact ⟨(mset x4 x10.1 x18), rfl, rfl, hC39⟩
      refine WL_buildSlice (vs := [(.int .i64 x16.1)]) hC27 Try.underlying26 ty3 rfl rfl rfl rfl (by intro v hv; simp only [List.mem_cons, List.not_mem_nil, or_false] at hv; rcases hv with rfl <;> rfl) rfl rfl (fun b8 w19 hC28 hB17 => ?_)
      have hC29 := hC28.row0 (α := Int)
      have hC30 := hC29.triv (int_val (x16.1))
      have hC31 := hC30.row1
      have hC32 := hC31.front 1 rfl
      dsimp only [List.eraseIdx, List.cons_append, List.nil_append, List.append_nil] at hC32
      have hC33 : Ctx [] w0 w19 (Item.own (.slice (some ⟨b8, 0, none⟩) 1 1) ([x16.1] : List Int) :: [Item.own v10 ((mget x4 x10.1) : (List Int)), Item.mhole b2 (x4 : (List (Int × List Int))) x10.1 v10, Item.box b4 [(.int .i64 x10.1), v4], Item.own v1 (x6 : (List Int))]) := hC32.rowOwn (by simp [maxLen])
      refine WL_nil ?_
      refine WA_all2 (i := 2) (j := 6) (by kernel_rfl) rfl rfl ?_ ?_
      ·refine WL_load_box hC33 3 rfl rfl Try.isAgg3 rfl rfl ?_
       refine WL_nil ?_
       refine WA_one 6 (by kernel_rfl) rfl ?_
       refine WL_lookup_hole hC33 2 rfl Try.underlying61 Try.underlying3 zero26 rfl rfl rfl ?_
       refine WL_nil ?_
       obtain ⟨x18, hx4, hr9⟩ := bind_some hr9
       refine WA_one 9 (by kernel_rfl) rfl ?_
       refine WL_append_flat (α := Int) hC33 1 rfl (hC33.ro 0 rfl) (Keep.refl _ _) Try.underlying26 ty3 rfl hx4 rfl rfl rfl (fun v11 w20 hC34 => ?_)
       try dsimp only [List.set] at hC34
       refine WL_nil ?_
       refine WA_one 10 (by kernel_rfl) rfl ?_
       have hC35 := hC34.f1
       refine WL_mapUpdate hC35 1 rfl Try.underlying61 Try.underlying3 rfl rfl rfl (fun w21 hC36 => ?_)
       try dsimp only [List.set] at hC36
       refine WL_nil ?_
       refine WA_done (by kernel_rfl) ?_
       have hq11 := Option.some.inj hr9
       subst hq11
       have hC37 := hC36.f3
       have hC38 := hC37.f2
       have hC39 := hC38.h2
       refine nrm_sub (l' := [(0, u1), (2, (.int .i64 a3)), (10, v1), (11, (.map (some b2))), (14, (.int .i64 x16.1)), (31, u2), (32, (.int .i64 (List.length a2 : Int))), (33, (.int .i64 x7))]) ⟨rfl, rfl, rfl, rfl, rfl, rfl, rfl, rfl, trivial⟩ ?_
       exact ⟨(mset x4 x10.1 x18), rfl, rfl, hC39⟩
      refine WL_lookup_hole hC33 2 rfl Try.underlying61 Try.underlying3 zero26 rfl rfl rfl ?_
      refine WL_nil ?_
      refine WA_all2 (i := 2) (j := 9) (by kernel_rfl) rfl rfl ?_ ?_
      ·refine WL_load_box hC33 3 rfl rfl Try.isAgg3 rfl rfl ?_
       refine WL_nil ?_
       obtain ⟨x18, hx4, hr9⟩ := bind_some hr9
       refine WA_one 9 (by kernel_rfl) rfl ?_
       refine WL_append_flat (α := Int) hC33 1 rfl (hC33.ro 0 rfl) (Keep.refl _ _) Try.underlying26 ty3 rfl hx4 rfl rfl rfl (fun v11 w20 hC34 => ?_)
       try dsimp only [List.set] at hC34
       refine WL_nil ?_
       refine WA_one 10 (by kernel_rfl) rfl ?_
       have hC35 := hC34.f1
       refine WL_mapUpdate hC35 1 rfl Try.underlying61 Try.underlying3 rfl rfl rfl (fun w21 hC36 => ?_)
       try dsimp only [List.set] at hC36
       refine WL_nil ?_
       refine WA_done (by kernel_rfl) ?_
       have hq11 := Option.some.inj hr9
       subst hq11
       have hC37 := hC36.f3
       have hC38 := hC37.f2
       have hC39 := hC38.h2
       refine nrm_sub (l' := [(0, u1), (2, (.int .i64 a3)), (10, v1), (11, (.map (some b2))), (14, (.int .i64 x16.1)), (31, u2), (32, (.int .i64 (List.length a2 : Int))), (33, (.int .i64 x7))]) ⟨rfl, rfl, rfl, rfl, rfl, rfl, rfl, rfl, trivial⟩ ?_
       exact ⟨(mset x4 x10.1 x18), rfl, rfl, hC39⟩
      obtain ⟨x18, hx4, hr9⟩ := bind_some hr9
      refine WL_append_flat (α := Int) hC33 1 rfl (hC33.ro 0 rfl) (Keep.refl _ _) Try.underlying26 ty3 rfl hx4 rfl rfl rfl (fun v11 w20 hC34 => ?_)
      try dsimp only [List.set] at hC34
      refine WL_nil ?_
      refine WA_one 2 (by kernel_rfl) rfl ?_
      refine WL_load_box hC34 3 rfl rfl Try.isAgg3 rfl rfl ?_
      refine WL_nil ?_
      refine WA_one 10 (by kernel_rfl) rfl ?_
      have hC35 := hC34.f1
      refine WL_mapUpdate hC35 1 rfl Try.underlying61 Try.underlying3 rfl rfl rfl (fun w21 hC36 => ?_)
      try dsimp only [List.set] at hC36
      refine WL_nil ?_
      refine WA_done (by kernel_rfl) ?_
      have hq11 := Option.some.inj hr9
      subst hq11
      have hC37 := hC36.f3
      have hC38 := hC37.f2
      have hC39 := hC38.h2
      refine nrm_sub (l' := [(0, u1), (2, (.int .i64 a3)), (10, v1), (11, (.map (some b2))), (14, (.int .i64 x16.1)), (31, u2), (32, (.int .i64 (List.length a2 : Int))), (33, (.int .i64 x7))]) ⟨rfl, rfl, rfl, rfl, rfl, rfl, rfl, rfl, trivial⟩ ?_
      exact ⟨(mset x4 x10.1 x18), rfl, rfl, hC39⟩
     refine WL_buildSlice (vs := [(.int .i64 x16.1)]) hC27 Try.underlying26 ty3 rfl rfl rfl rfl (by intro v hv; simp only [List.mem_cons, List.not_mem_nil, or_false] at hv; rcases hv with rfl <;> rfl) rfl rfl (fun b8 w19 hC28 hB17 => ?_)
     have hC29 := hC28.row0 (α := Int)
     have hC30 := hC29.triv (int_val (x16.1))
     have hC31 := hC30.row1
     have hC32 := hC31.front 1 rfl
     dsimp only [List.eraseIdx, List.cons_append, List.nil_append, List.append_nil] at hC32
     have hC33 : Ctx [] w0 w19 (Item.own (.slice (some ⟨b8, 0, none⟩) 1 1) ([x16.1] : List Int) :: [Item.own v10 ((mget x4 x10.1) : (List Int)), Item.mhole b2 (x4 : (List (Int × List Int))) x10.1 v10, Item.box b4 [(.int .i64 x10.1), v4], Item.own v1 (x6 : (List Int))]) := hC32.rowOwn (by simp [maxLen])
     refine WL_nil ?_
     refine WA_all2 (i := 2) (j := 5) (by kernel_rfl) rfl rfl ?_ ?_
     ·refine WL_load_box hC33 3 rfl rfl Try.isAgg3 rfl rfl ?_
      refine WL_nil ?_
      refine WA_one 5 (by kernel_rfl) rfl ?_
      refine WL_load_box hC33 3 rfl rfl Try.isAgg3 rfl rfl ?_
      refine WL_nil ?_
      refine WA_one 6 (by kernel_rfl) rfl ?_
      refine WL_lookup_hole hC33 2 rfl Try.underlying61 Try.underlying3 zero26 rfl rfl rfl ?_
      refine WL_nil ?_
      obtain ⟨x18, hx4, hr9⟩ := bind_some hr9
      refine WA_one 9 (by kernel_rfl) rfl ?_
      refine WL_append_flat (α := Int) hC33 1 rfl (hC33.ro 0 rfl) (Keep.refl _ _) Try.underlying26 ty3 rfl hx4 rfl rfl rfl (fun v11 w20 hC34 => ?_)
      try dsimp only [List.set] at hC34
      refine WL_nil ?_
      refine WA_one 10 (by kernel_rfl) rfl ?_
      have hC35 := hC34.f1
      refine WL_mapUpdate hC35 1 rfl Try.underlying61 Try.underlying3 rfl rfl rfl (fun w21 hC36 => ?_)
      try dsimp only [List.set] at hC36
      refine WL_nil ?_
      refine WA_done (by kernel_rfl) ?_
      have hq11 := Option.some.inj hr9
      subst hq11
      have hC37 := hC36.f3
      have hC38 := hC37.f2
      have hC39 := hC38.h2
      refine nrm_sub (l' := [(0, u1), (2, (.int .i64 a3)), (10, v1), (11, (.map (some b2))), (14, (.int .i64 x16.1)), (31, u2), (32, (.int .i64 (List.length a2 : Int))), (33, (.int .i64 x7))]) ⟨rfl, rfl, rfl, rfl, rfl, rfl, rfl, rfl, trivial⟩ ?_
      exact ⟨(mset x4 x10.1 x18), rfl, rfl, hC39⟩
     refine WL_load_box hC33 3 rfl rfl Try.isAgg3 rfl rfl ?_
     refine WL_nil ?_
     refine WA_all2 (i := 2) (j := 6) (by kernel_rfl) rfl rfl ?_ ?_
     ·refine WL_load_box hC33 3 rfl rfl Try.isAgg3 rfl rfl ?_
      refine WL_nil ?_
      refine WA_one 6 (by kernel_rfl) rfl ?_
      refine WL_lookup_hole hC33 2 rfl Try.underlying61 Try.underlying3 zero26 rfl rfl rfl ?_
      refine WL_nil ?_
      obtain ⟨x18, hx4, hr9⟩ := bind_some hr9
      refine WA_one 9 (by kernel_rfl) rfl ?_
      refine WL_append_flat (α := Int) hC33 1 rfl (hC33.ro 0 rfl) (Keep.refl _ _) Try.underlying26 ty3 rfl hx4 rfl rfl rfl (fun v11 w20 hC34 => ?_)
      try dsimp only [List.set] at hC34
      refine WL_nil ?_
      refine WA_one 10 (by kernel_rfl) rfl ?_
      have hC35 := hC34.f1
      refine WL_mapUpdate hC35 1 rfl Try.underlying61 Try.underlying3 rfl rfl rfl (fun w21 hC36 => ?_)
      try dsimp only [List.set] at hC36
      refine WL_nil ?_
      refine WA_done (by kernel_rfl) ?_
      have hq11 := Option.some.inj hr9
      subst hq11
      have hC37 := hC36.f3
      have hC38 := hC37.f2
      have hC39 := hC38.h2
      refine nrm_sub (l' := [(0, u1), (2, (.int .i64 a3)), (10, v1), (11, (.map (some b2))), (14, (.int .i64 x16.1)), (31, u2), (32, (.int .i64 (List.length a2 : Int))), (33, (.int .i64 x7))]) ⟨rfl, rfl, rfl, rfl, rfl, rfl, rfl, rfl, trivial⟩ ?_
      exact ⟨(mset x4 x10.1 x18), rfl, rfl, hC39⟩
     refine WL_lookup_hole hC33 2 rfl Try.underlying61 Try.underlying3 zero26 rfl rfl rfl ?_
     refine WL_nil ?_
     refine WA_all2 (i := 2) (j := 9) (by kernel_rfl) rfl rfl ?_ ?_
     ·refine WL_load_box hC33 3 rfl rfl Try.isAgg3 rfl rfl ?_
      refine WL_nil ?_
      obtain ⟨x18, hx4, hr9⟩ := bind_some hr9
      refine WA_one 9 (by kernel_rfl) rfl ?_
      refine WL_append_flat (α := Int) hC33 1 rfl (hC33.ro 0 rfl) (Keep.refl _ _) Try.underlying26 ty3 rfl hx4 rfl rfl rfl (fun v11 w20 hC34 => ?_)
      try dsimp only [List.set] at hC34
      refine WL_nil ?_
      refine WA_one 10 (by kernel_rfl) rfl ?_
      have hC35 := hC34.f1
      refine WL_mapUpdate hC35 1 rfl Try.underlying61 Try.underlying3 rfl rfl rfl (fun w21 hC36 => ?_)
      try dsimp only [List.set] at hC36
      refine WL_nil ?_
      refine WA_done (by kernel_rfl) ?_
      have hq11 := Option.some.inj hr9
      subst hq11
      have hC37 := hC36.f3
      have hC38 := hC37.f2
      have hC39 := hC38.h2
      refine nrm_sub (l' := [(0, u1), (2, (.int .i64 a3)), (10, v1), (11, (.map (some b2))), (14, (.int .i64 x16.1)), (31, u2), (32, (.int .i64 (List.length a2 : Int))), (33, (.int .i64 x7))]) ⟨rfl, rfl, rfl, rfl, rfl, rfl, rfl, rfl, trivial⟩ ?_
      exact ⟨(mset x4 x10.1 x18), rfl, rfl, hC39⟩
     obtain ⟨x18, hx4, hr9⟩ := bind_some hr9
     refine WL_append_flat (α := Int) hC33 1 rfl (hC33.ro 0 rfl) (Keep.refl _ _) Try.underlying26 ty3 rfl hx4 rfl rfl rfl (fun v11 w20 hC34 => ?_)
     try dsimp only [List.set] at hC34
     refine WL_nil ?_
     refine WA_one 2 (by kernel_rfl) rfl ?_
     refine WL_load_box hC34 3 rfl rfl Try.isAgg3 rfl rfl ?_
     refine WL_nil ?_
     refine WA_one 10 (by kernel_rfl) rfl ?_
     have hC35 := hC34.f1
     refine WL_mapUpdate hC35 1 rfl Try.underlying61 Try.underlying3 rfl rfl rfl (fun w21 hC36 => ?_)
     try dsimp only [List.set] at hC36
     refine WL_nil ?_
     refine WA_done (by kernel_rfl) ?_
     have hq11 := Option.some.inj hr9
     subst hq11
     have hC37 := hC36.f3
     have hC38 := hC37.f2
     have hC39 := hC38.h2
     refine nrm_sub (l' := [(0, u1), (2, (.int .i64 a3)), (10, v1), (11, (.map (some b2))), (14, (.int .i64 x16.1)), (31, u2), (32, (.int .i64 (List.length a2 : Int))), (33, (.int .i64 x7))]) ⟨rfl, rfl, rfl, rfl, rfl, rfl, rfl, rfl, trivial⟩ ?_
     exact ⟨(mset x4 x10.1 x18), rfl, rfl, hC39⟩
    rintro _ w17 ⟨x17, rfl, rfl, hC24⟩
    try dsimp only at hL1
    refine W_seq_reg ?_
    refine WL_move rfl rfl ?_
    refine WL_move rfl rfl ?_
    refine WL_buildSlice (vs := [(.int .i64 x16.1)]) hC24 Try.underlying26 ty3 rfl rfl rfl rfl (by intro v hv; simp only [List.mem_cons, List.not_mem_nil, or_false] at hv; rcases hv with rfl <;> rfl) rfl rfl (fun b9 w24 hC41 hB20 => ?_)
    have hC42 := hC41.row0 (α := Int)
    have hC43 := hC42.triv (int_val (x16.1))
    have hC44 := hC43.row1
    have hC45 := hC44.front 1 rfl
    dsimp only [List.eraseIdx, List.cons_append, List.nil_append, List.append_nil] at hC45
    have hC46 : Ctx [] w0 w24 (Item.own (.slice (some ⟨b9, 0, none⟩) 1 1) ([x16.1] : List Int) :: [Item.imap b2 (x17 : (List (Int × List Int))), Item.own v1 (x6 : (List Int))]) := hC45.rowOwn (by simp [maxLen])
    obtain ⟨x19, hx5, hL1⟩ := bind_some hL1
    refine WL_append_flat (α := Int) hC46 2 rfl (hC46.ro 0 rfl) (Keep.refl _ _) Try.underlying26 ty3 rfl hx5 rfl rfl rfl (fun v13 w25 hC47 => ?_)
    try dsimp only [List.set] at hC47
    refine WL_assign rfl rfl ?_
    refine WL_nil ?_
    refine W_reg ?_
    refine WL_move rfl rfl ?_
    refine WL_assign rfl rfl ?_
    refine WL_nil ?_
    refine blk_normal ?_
    refine nrm_normal ?_
    refine W_reg ?_
    refine WL_add rfl rfl rfl ?_
    refine WL_move rfl rfl ?_
    refine WL_nil ?_
    have hC48 := hC47.f2
    have hC49 := hC48.f2
    have hC50 := hC49.h2
    refine nrm_sub (l' := [(0, u1), (2, (.int .i64 a3)), (3, (.int .i64 x16.1)), (10, v13), (11, (.map (some b2))), (31, u2), (32, (.int .i64 (List.length a2 : Int))), (33, (.int .i64 (w64 (x7 + 1))))]) ⟨rfl, rfl, rfl, rfl, rfl, rfl, rfl, rfl, trivial⟩ ?_
    exact ⟨k1, Nat.lt_succ_self _, x17, x16.1, v13, x19, w64 (x7 + 1), rfl, hC50, hL1⟩
   replace hL1 := ite_f hL1 hc4
   refine W_exit ?_
   refine nrm_exit ?_
   refine nrm_exit ?_
   refine blk_exit ?_
   have hq12 := Option.some.inj hL1
   subst hq12
   have hC51 := hC11.f1
   have hC52 := hC51.h1
   refine nrm_sub (l' := [(10, v1)]) ⟨rfl, trivial⟩ ?_
   exact ⟨x4, v1, x6, rfl, rfl, hC52⟩
 rintro l5 _ w26 hs5 ⟨x8, v2, x9, rfl, rfl, hC53⟩
 try dsimp only at hF
 refine nrm_sub' hs5 ?_
 clear hs5
 refine W_seq_reg ?_
 refine WL_move rfl rfl ?_
 refine WL_assign rfl rfl ?_
 refine WL_assign rfl rfl ?_
 refine WL_nil ?_
 refine W_ret ?_
 have hq13 := Option.some.inj hF
 subst hq13
 refine fn_ret2 rfl rfl rfl ?_
 have hC54 := hC53.triv (bool_val (true))
 have hC55 := hC54.f1
 exact ⟨_, rfl, res2_of hC55⟩

theorem c_Q_big {w0 : World} (a1 : (List UInt8)) (u1 : Value) (g1 : RO [] w0 u1 a1) (rr : Bool) (hF : Q.big a1 = some rr) :
 Calls Try.prog 18 [u1].toArray w0 fun e w' => ∃ v, e = .returned v ∧ Res w0 rr v w' := by
 refine calls_of_W Try.func18 rfl rfl ?_
 have hC0 := Ctx.start w0
 unfold Q.big at hF
 refine W_seq_reg ?_
 refine WL_assign rfl rfl ?_
 refine WL_nil ?_
 refine W_seq_reg ?_
 refine WL_move rfl rfl ?_
 refine WL_len Try.underlying40 g1 rfl rfl ?_
 refine WL_gtr rfl rfl rfl ?_
 refine WL_assign rfl rfl ?_
 refine WL_nil ?_
 refine W_ret ?_
 have hq1 := Option.some.inj hF
 subst hq1
 refine fn_ret1 rfl rfl ?_
 exact ⟨_, rfl, bool_res hC0 _⟩

theorem c_S_l1New {w0 : World} (a1 : (List UInt8)) (u1 : Value) (g1 : RO [] w0 u1 a1) (rr : ((List UInt8) × Int × Int)) (hF : S.l1New a1 = some rr) :
 Calls Try.prog 39 [u1].toArray w0 fun e w' => ∃ v, e = .returned v ∧ ∃ q0 : Nat, v = (ptr q0 0) ∧ Ctx [] w0 w' [Item.box q0 [u1, (.int .i64 rr.2.1), (.int .i64 rr.2.2)]] := by
 refine calls_of_W Try.func39 rfl rfl ?_
 have hC0 := Ctx.start w0
 unfold S.l1New at hF
 refine W_seq_reg ?_
 refine WL_assign rfl rfl ?_
 refine WL_nil ?_
 refine W_seq_reg ?_
 refine WL_move rfl rfl ?_
 refine WL_len Try.underlying40 g1 rfl rfl ?_
 refine WL_add rfl rfl rfl ?_
 refine WL_assign rfl rfl ?_
 refine WL_nil ?_
 refine W_seq ?_
 refine W_seq_reg ?_
 refine WL_assign rfl rfl ?_
 refine WL_nil ?_
 obtain ⟨r1, hr1, hF⟩ := bind_some hF
 refine W_norm (fun l w => ∃ x3 : Int, x3 = r1 ∧ l = [(0, u1), (3, (.int .i64 x3))] ∧ Below w0.heap.size w0 w ∧ Ctx [] w0 w []) ?_ ?_
 ·refine W_block ?_
  refine W.sub (l' := [(0, u1), (3, (.int .i64 (w64 (10101 + (List.length a1 : Int))))), (4, (.int .i64 0))]) ?_ ⟨rfl, rfl, rfl, trivial⟩
  refine W_loop (fun k l w => ∃ x1 : Int, ∃ x2 : Int, l = [(0, u1), (3, (.int .i64 x1)), (4, (.int .i64 x2))] ∧ Below w0.heap.size w0 w ∧ Ctx [] w0 w [] ∧ S.l1New_l1 a1 k x1 x2 = some r1) FUEL ⟨w64 (10101 + (List.length a1 : Int)), 0, rfl, (Below.refl _ _), hC0, hr1⟩ ?_
  clear hr1
  rintro k1 _ w1 ⟨x1, x2, rfl, hB1, hC1, hL1⟩
  cases k1 with
  | zero => rw [S.l1New_l1] at hL1; cases hL1
  | succ k1 =>
   rw [S.l1New_l1] at hL1
   refine W_seq ?_
   obtain ⟨r2, hr2, hL1⟩ := bind_some hL1
   refine W_cut (fun l w => ∃ x4 : Bool, x4 = r2 ∧ l = [(0, u1), (3, (.int .i64 x1)), (4, (.int .i64 x2)), (15, (.bool x4))] ∧ Below w1.heap.size w1 w ∧ Ctx [] w0 w []) ?_ ?_
   ·refine W_reg ?_
    refine WL_move rfl rfl ?_
    refine WL_move rfl rfl ?_
    refine WL_len Try.underlying40 g1 rfl rfl ?_
    refine WL_lss rfl rfl rfl ?_
    refine WL_move rfl rfl ?_
    refine WL_fork (fun hc1 => ?_) (fun hc1 => ?_)
    ·replace hr2 := ite_t hr2 hc1
     refine WL_guard rfl rfl ?_
     refine WL_move rfl rfl ?_
     refine WL_guard rfl rfl ?_
     refine WL_lss rfl rfl rfl ?_
     refine WL_pick_t rfl rfl rfl ?_
     refine WL_nil ?_
     have hq1 := Option.some.inj hr2
     subst hq1
     refine nrm_sub (l' := [(0, u1), (3, (.int .i64 x1)), (4, (.int .i64 x2)), (15, (.bool (decide (x2 < 4000))))]) ⟨rfl, rfl, rfl, rfl, trivial⟩ ?_
     exact ⟨(decide (x2 < 4000)), rfl, rfl, (Below.refl _ _), hC1⟩
    replace hr2 := ite_f hr2 hc1
    refine WL_guard_skip rfl rfl (by simp) rfl ?_
    refine WL_guard_skip rfl rfl (by simp) rfl ?_
    refine WL_pick_f rfl rfl rfl ?_
    refine WL_nil ?_
    have hq2 := Option.some.inj hr2
    subst hq2
    refine nrm_sub (l' := [(0, u1), (3, (.int .i64 x1)), (4, (.int .i64 x2)), (15, (.bool false))]) ⟨rfl, rfl, rfl, rfl, trivial⟩ ?_
    exact ⟨false, rfl, rfl, (Below.refl _ _), hC1⟩
   rintro _ w2 ⟨x4, rfl, rfl, hB2, hC2⟩
   try dsimp only at hL1
   refine W_cond rfl (fun hc2 => ?_) (fun hc2 => ?_)
   ·replace hL1 := ite_t hL1 hc2
    refine W_skip ?_
    refine nrm_normal ?_
    refine W_seq ?_
    refine W_block ?_
    refine W_reg ?_
    refine WL_move rfl rfl ?_
    refine WL_mul rfl rfl rfl ?_
    refine WL_move rfl rfl ?_
    refine WL_move rfl rfl ?_
    obtain ⟨x5, hx1, hL1⟩ := bind_some hL1
    refine WL_index Try.underlying40 ty5 g1 hx1 rfl rfl rfl (fun b1 o1 h1 => ?_)
    refine WL_load ty5 h1 hC2.keep rfl rfl (fun v1 h2 => ?_)
    obtain rfl := ro_u8 h2
    refine WL_conv_i64 Try.underlying5 Try.underlying3 rfl rfl ?_
    refine WL_add rfl rfl rfl ?_
    refine WL_add rfl rfl rfl ?_
    refine WL_band rfl rfl rfl ?_
    refine WL_assign rfl rfl ?_
    refine WL_nil ?_
    refine blk_normal ?_
    refine nrm_normal ?_
    refine W_reg ?_
    refine WL_move rfl rfl ?_
    refine WL_add rfl rfl rfl ?_
    refine WL_assign rfl rfl ?_
    refine WL_nil ?_
    refine nrm_sub (l' := [(0, u1), (3, (.int .i64 (band (w64 ((w64 ((w64 (x1 * 131)) + (w64 (UInt8.toNat x5 : Int)))) + 7)) 1073741823))), (4, (.int .i64 (w64 (x2 + 1))))]) ⟨rfl, rfl, rfl, trivial⟩ ?_
    exact ⟨k1, Nat.lt_succ_self _, band (w64 ((w64 ((w64 (x1 * 131)) + (w64 (UInt8.toNat x5 : Int)))) + 7)) 1073741823, w64 (x2 + 1), rfl, ((Keep.of hB1).then hB2).below, hC2, hL1⟩
   replace hL1 := ite_f hL1 hc2
   refine W_exit ?_
   refine nrm_exit ?_
   refine nrm_exit ?_
   refine blk_exit ?_
   have hq3 := Option.some.inj hL1
   subst hq3
   refine nrm_sub (l' := [(0, u1), (3, (.int .i64 x1))]) ⟨rfl, rfl, trivial⟩ ?_
   exact ⟨x1, rfl, rfl, ((Keep.of hB1).then hB2).below, hC2⟩
 rintro l3 _ w3 hs3 ⟨x3, rfl, rfl, hB3, hC3⟩
 try dsimp only at hF
 refine nrm_sub' hs3 ?_
 clear hs3
 refine W_seq_reg ?_
 refine WL_move rfl rfl ?_
 refine WL_move rfl rfl ?_
 refine WL_build (vs := [(0, u1), (2, (.int .i64 x3))]) rfl rfl rfl (built80_0_2 (ro_cells g1) rfl) ?_
 refine WL_boxK (cs := [u1, (.int .i64 0), (.int .i64 x3)]) hC3 rfl rfl rfl (fun b2 w4 hC4 hB4 hN1 => ?_)
 refine WL_assign rfl rfl ?_
 refine WL_nil ?_
 refine W_ret ?_
 have hq4 := Option.some.inj hF
 subst hq4
 refine fn_ret1 rfl rfl ?_
 exact ⟨_, rfl, _, rfl, hC4⟩

theorem c_S_l1Byte {w0 : World} {Fs : List (List Nat)} (pb1 : Nat) (a1 : ((List UInt8) × Int × Int)) (u1 : Value) (g1 : RO Fs.flatten w0 u1 a1.1) (hH : Hold [Item.box pb1 [u1, (.int .i64 a1.2.1), (.int .i64 a1.2.2)]] w0 Fs) (hn : Fs.flatten.Nodup) (rr : (Int × ((List UInt8) × Int × Int))) (hF : S.l1Byte a1 = some rr) :
 Calls Try.prog 53 [(ptr pb1 0)].toArray w0 fun e w' => ∃ v, e = .returned v ∧ v = (.int .i64 rr.1) ∧ Ctx Fs.flatten w0 w' [Item.box pb1 [u1, (.int .i64 rr.2.2.1), (.int .i64 rr.2.2.2)]] := by
 refine calls_of_W Try.func53 rfl rfl ?_
 have hC0 := Ctx.startIn hH hn
 unfold S.l1Byte at hF
 refine W_seq_reg ?_
 refine WL_assign rfl rfl ?_
 refine WL_nil ?_
 refine W_seq_reg ?_
 refine WL_move rfl rfl ?_
 refine WL_move rfl rfl ?_
 refine WL_nilCheck rfl rfl ?_
 refine WL_field Try.underlying80 rfl rfl (fun w => ⟨_, Try.sizeOf3 w⟩) rfl rfl ?_
 refine WL_load_box hC0 0 rfl rfl Try.isAgg3 rfl rfl ?_
 refine WL_mul rfl rfl rfl ?_
 refine WL_add rfl rfl rfl ?_
 refine WL_nilCheck rfl rfl ?_
 refine WL_field Try.underlying80 rfl rfl (fun w => ⟨_, Try.sizeOf3 w⟩) rfl rfl ?_
 refine WL_store_boxK (cs' := [u1, (.int .i64 a1.2.1), (.int .i64 (w64 ((w64 (a1.2.2 * 6364136223846793005)) + 1442695040888963407)))]) hC0 0 rfl rfl rfl rfl Try.sizeOf3 rfl rfl (fun w1 hC1 hKp1 => ?_)
 try dsimp only [List.set] at hC1
 refine WL_nil ?_
 refine W_seq ?_
 refine W_drawn 13 rfl hmix (fun w2 hB1 => ?_)
 have hC2 := hC1.grow hB1
 refine WA_tk 0 (by kernel_rfl) rfl rfl (fl_move rfl) ?_
 refine WL_move rfl rfl ?_
 refine WL_nil ?_
 refine WA_tk 1 (by kernel_rfl) rfl rfl (fl_nilCheck rfl) ?_
 refine WL_nilCheck rfl rfl ?_
 refine WL_nil ?_
 refine WA_tk 2 (by kernel_rfl) rfl rfl (fl_field Try.underlying80 rfl rfl (fun w => ⟨_, Try.sizeOf3 w⟩) rfl) ?_
 refine WL_field Try.underlying80 rfl rfl (fun w => ⟨_, Try.sizeOf3 w⟩) rfl rfl ?_
 refine WL_nil ?_
 refine WA_tk 5 (by kernel_rfl) rfl rfl (fl_move rfl) ?_
 refine WL_move rfl rfl ?_
 refine WL_nil ?_
 refine WA_tk 6 (by kernel_rfl) rfl rfl (fl_nilCheck rfl) ?_
 refine WL_nilCheck rfl rfl ?_
 refine WL_nil ?_
 refine WA_tk 7 (by kernel_rfl) rfl rfl (fl_field Try.underlying80 rfl rfl (fun w => ⟨_, Try.sizeOf3 w⟩) rfl) ?_
 refine WL_field Try.underlying80 rfl rfl (fun w => ⟨_, Try.sizeOf3 w⟩) rfl rfl ?_
 refine WL_nil ?_
 refine WA.sub (l' := [(0, (ptr pb1 0)), (2, (.int .i64 0)), (4, (ptr pb1 0)), (5, (ptr pb1 0)), (6, (ptr pb1 0)), (7, (ptr pb1 2)), (8, (.int .i64 a1.2.2)), (9, (.int .i64 (w64 (a1.2.2 * 6364136223846793005)))), (10, (.int .i64 (w64 ((w64 (a1.2.2 * 6364136223846793005)) + 1442695040888963407)))), (11, (ptr pb1 0)), (12, (ptr pb1 2)), (13, (ptr pb1 0)), (14, (ptr pb1 0)), (15, (ptr pb1 2)), (18, (ptr pb1 0)), (19, (ptr pb1 0)), (20, (ptr pb1 2))]) ?_ ⟨rfl, rfl, rfl, rfl, rfl, rfl, rfl, rfl, rfl, rfl, rfl, rfl, rfl, rfl, rfl, rfl, rfl, trivial⟩
 refine WA_postsE [⟨3, [], fun vs => PW.val (.int .i64 (w64 ((w64 (a1.2.2 * 6364136223846793005)) + 1442695040888963407))), []⟩, ⟨4, [], fun vs => PW.val (.int .i64 (shr (w64 ((w64 (a1.2.2 * 6364136223846793005)) + 1442695040888963407)) 33)), []⟩, ⟨8, [], fun vs => PW.val (.int .i64 (w64 ((w64 (a1.2.2 * 6364136223846793005)) + 1442695040888963407))), []⟩, ⟨9, [], fun vs => PW.val (.int .i64 (shr (w64 ((w64 (a1.2.2 * 6364136223846793005)) + 1442695040888963407)) 45)), []⟩] [[], [3], [], [8]] 3 rfl (by kernel_rfl) (by kernel_rfl) rfl ?_ ?_
 ·refine StepsE_cons rfl ?_ ?_
  ·intro w3 hB2
   refine DepsE_nil ?_
   refine ⟨_, rfl, ?_⟩
   refine WL_load_box (hC2.grow hB2) 0 rfl rfl Try.isAgg3 rfl rfl ?_
   refine WL_nil ?_
   exact FinE_val (Below.refl _ _) rfl rfl ⟨rfl, rfl⟩
  refine StepsE_cons rfl ?_ ?_
  ·intro w3 hB2
   refine DepsE_cons rfl rfl rfl ?_
   rintro _ _ ⟨rfl, rfl⟩ _
   refine DepsE_nil ?_
   refine ⟨_, rfl, ?_⟩
   refine WL_shr (by decide) rfl rfl rfl ?_
   refine WL_nil ?_
   exact FinE_val (Below.refl _ _) rfl rfl ⟨rfl, rfl⟩
  refine StepsE_cons rfl ?_ ?_
  ·intro w3 hB2
   refine DepsE_nil ?_
   refine ⟨_, rfl, ?_⟩
   refine WL_load_box (hC2.grow hB2) 0 rfl rfl Try.isAgg3 rfl rfl ?_
   refine WL_nil ?_
   exact FinE_val (Below.refl _ _) rfl rfl ⟨rfl, rfl⟩
  refine StepsE_cons rfl ?_ ?_
  ·intro w3 hB2
   refine DepsE_cons rfl rfl rfl ?_
   rintro _ _ ⟨rfl, rfl⟩ _
   refine DepsE_nil ?_
   refine ⟨_, rfl, ?_⟩
   refine WL_shr (by decide) rfl rfl rfl ?_
   refine WL_nil ?_
   exact FinE_val (Below.refl _ _) rfl rfl ⟨rfl, rfl⟩
  exact StepsE_nil
 intro w4 hB3
 refine AllE_cons rfl rfl rfl ?_
 rintro _ _ ⟨rfl, rfl⟩
 refine AllE_cons rfl rfl rfl ?_
 rintro _ _ ⟨rfl, rfl⟩
 refine AllE_cons rfl rfl rfl ?_
 rintro _ _ ⟨rfl, rfl⟩
 refine AllE_cons rfl rfl rfl ?_
 rintro _ _ ⟨rfl, rfl⟩
 refine AllE_nil ?_
 intro hn1 hb1
 have hC3 := hC2.grow hB3
 refine WA_tk 10 (by kernel_rfl) rfl rfl (fl_bxor rfl rfl) ?_
 refine WL_bxor rfl rfl rfl ?_
 refine WL_nil ?_
 refine WA_tk 11 (by kernel_rfl) rfl rfl (fl_band rfl rfl) ?_
 refine WL_band rfl rfl rfl ?_
 refine WL_nil ?_
 refine WA_tk 12 (by kernel_rfl) rfl rfl (fl_assign rfl) ?_
 refine WL_assign rfl rfl ?_
 refine WL_nil ?_
 refine WA_done (by kernel_rfl) ?_
 refine nrm_normal ?_
 refine W_seq ?_
 refine W_seq ?_
 refine W_drawn 10 rfl hmix (fun w5 hB4 => ?_)
 have hC4 := hC3.grow hB4
 refine WA_tk 0 (by kernel_rfl) rfl rfl (fl_move rfl) ?_
 refine WL_move rfl rfl ?_
 refine WL_nil ?_
 refine WA_tk 1 (by kernel_rfl) rfl rfl (fl_nilCheck rfl) ?_
 refine WL_nilCheck rfl rfl ?_
 refine WL_nil ?_
 refine WA_tk 2 (by kernel_rfl) rfl rfl (fl_field Try.underlying80 rfl rfl (fun w => ⟨_, Try.sizeOf3 w⟩) rfl) ?_
 refine WL_field Try.underlying80 rfl rfl (fun w => ⟨_, Try.sizeOf3 w⟩) rfl rfl ?_
 refine WL_nil ?_
 refine WA_tk 4 (by kernel_rfl) rfl rfl (fl_move rfl) ?_
 refine WL_move rfl rfl ?_
 refine WL_nil ?_
 refine WA_tk 5 (by kernel_rfl) rfl rfl (fl_nilCheck rfl) ?_
 refine WL_nilCheck rfl rfl ?_
 refine WL_nil ?_
 refine WA_tk 6 (by kernel_rfl) rfl rfl (fl_field Try.underlying80 rfl rfl (fun w => ⟨_, Try.sizeOf40 w⟩) rfl) ?_
 refine WL_field Try.underlying80 rfl rfl (fun w => ⟨_, Try.sizeOf40 w⟩) rfl rfl ?_
 refine WL_nil ?_
 refine WA.sub (l' := [(0, (ptr pb1 0)), (2, (.int .i64 0)), (3, (.int .i64 (band (bxor (shr (w64 ((w64 (a1.2.2 * 6364136223846793005)) + 1442695040888963407)) 33) (shr (w64 ((w64 (a1.2.2 * 6364136223846793005)) + 1442695040888963407)) 45)) 255))), (4, (ptr pb1 0)), (5, (ptr pb1 0)), (6, (ptr pb1 0)), (7, (ptr pb1 2)), (8, (.int .i64 a1.2.2)), (9, (.int .i64 (w64 (a1.2.2 * 6364136223846793005)))), (10, (.int .i64 (w64 ((w64 (a1.2.2 * 6364136223846793005)) + 1442695040888963407)))), (11, (ptr pb1 0)), (12, (ptr pb1 2)), (13, (ptr pb1 0)), (14, (ptr pb1 0)), (15, (ptr pb1 2)), (16, (.int .i64 (w64 ((w64 (a1.2.2 * 6364136223846793005)) + 1442695040888963407)))), (17, (.int .i64 (shr (w64 ((w64 (a1.2.2 * 6364136223846793005)) + 1442695040888963407)) 33))), (18, (ptr pb1 0)), (19, (ptr pb1 0)), (20, (ptr pb1 2)), (21, (.int .i64 (w64 ((w64 (a1.2.2 * 6364136223846793005)) + 1442695040888963407)))), (22, (.int .i64 (shr (w64 ((w64 (a1.2.2 * 6364136223846793005)) + 1442695040888963407)) 45))), (23, (.int .i64 (bxor (shr (w64 ((w64 (a1.2.2 * 6364136223846793005)) + 1442695040888963407)) 33) (shr (w64 ((w64 (a1.2.2 * 6364136223846793005)) + 1442695040888963407)) 45)))), (24, (.int .i64 (band (bxor (shr (w64 ((w64 (a1.2.2 * 6364136223846793005)) + 1442695040888963407)) 33) (shr (w64 ((w64 (a1.2.2 * 6364136223846793005)) + 1442695040888963407)) 45)) 255))), (25, (ptr pb1 0)), (26, (ptr pb1 0)), (27, (ptr pb1 1)), (29, (ptr pb1 0)), (30, (ptr pb1 0)), (31, (ptr pb1 0))]) ?_ ⟨rfl, rfl, rfl, rfl, rfl, rfl, rfl, rfl, rfl, rfl, rfl, rfl, rfl, rfl, rfl, rfl, rfl, rfl, rfl, rfl, rfl, rfl, rfl, rfl, rfl, rfl, rfl, rfl, rfl, rfl, trivial⟩
 refine WA_postsE [⟨3, [], fun vs => PW.val (.int .i64 a1.2.1), []⟩, ⟨7, [], fun vs => PW.val u1, []⟩, ⟨8, [], fun vs => PW.val (.int .i64 (List.length a1.1 : Int)), []⟩] [[], [], [7]] 1 rfl (by kernel_rfl) (by kernel_rfl) rfl ?_ ?_
 ·refine StepsE_cons rfl ?_ ?_
  ·intro w6 hB5
   refine DepsE_nil ?_
   refine ⟨_, rfl, ?_⟩
   refine WL_load_box (hC4.grow hB5) 0 rfl rfl Try.isAgg3 rfl rfl ?_
   refine WL_nil ?_
   exact FinE_val (Below.refl _ _) rfl rfl ⟨rfl, rfl⟩
  refine StepsE_cons rfl ?_ ?_
  ·intro w6 hB5
   refine DepsE_nil ?_
   refine ⟨_, rfl, ?_⟩
   refine WL_load_box (hC4.grow hB5) 0 rfl rfl Try.isAgg40 rfl rfl ?_
   refine WL_nil ?_
   exact FinE_val (Below.refl _ _) rfl rfl ⟨rfl, rfl⟩
  refine StepsE_cons rfl ?_ ?_
  ·intro w6 hB5
   refine DepsE_cons rfl rfl rfl ?_
   rintro _ _ ⟨rfl, rfl⟩ _
   refine DepsE_nil ?_
   refine ⟨_, rfl, ?_⟩
   refine WL_len Try.underlying40 g1 rfl rfl ?_
   refine WL_nil ?_
   exact FinE_val (Below.refl _ _) rfl rfl ⟨rfl, rfl⟩
  exact StepsE_nil
 intro w7 hB6
 refine AllE_cons rfl rfl rfl ?_
 rintro _ _ ⟨rfl, rfl⟩
 refine AllE_cons rfl rfl rfl ?_
 rintro _ _ ⟨rfl, rfl⟩
 refine AllE_cons rfl rfl rfl ?_
 rintro _ _ ⟨rfl, rfl⟩
 refine AllE_nil ?_
 intro hn2 hb2
 have hC5 := hC4.grow hB6
 refine WA_tk 9 (by kernel_rfl) rfl rfl (fl_lss rfl rfl) ?_
 refine WL_lss rfl rfl rfl ?_
 refine WL_nil ?_
 refine WA_done (by kernel_rfl) ?_
 refine nrm_normal ?_
 obtain ⟨r1, hr1, hF⟩ := bind_some hF
 refine W_norm (fun l w => ∃ x1 : Int, ∃ x2 : Int, ∃ x3 : Int, (x1, x2, x3) = r1 ∧ l = [(3, (.int .i64 x3))] ∧ Ctx Fs.flatten w0 w [Item.box pb1 [u1, (.int .i64 x1), (.int .i64 x2)]]) ?_ ?_
 ·refine W_cond rfl (fun hc1 => ?_) (fun hc1 => ?_)
  ·replace hr1 := ite_t hr1 hc1
   refine W_seq ?_
   refine W_drawn 15 rfl hmix (fun w10 hB8 => ?_)
   have hC7 := hC5.grow hB8
   refine WA_tk 0 (by kernel_rfl) rfl rfl (fl_move rfl) ?_
   refine WL_move rfl rfl ?_
   refine WL_nil ?_
   refine WA_tk 1 (by kernel_rfl) rfl rfl (fl_move rfl) ?_
   refine WL_move rfl rfl ?_
   refine WL_nil ?_
   refine WA_tk 2 (by kernel_rfl) rfl rfl (fl_nilCheck rfl) ?_
   refine WL_nilCheck rfl rfl ?_
   refine WL_nil ?_
   refine WA_tk 3 (by kernel_rfl) rfl rfl (fl_field Try.underlying80 rfl rfl (fun w => ⟨_, Try.sizeOf40 w⟩) rfl) ?_
   refine WL_field Try.underlying80 rfl rfl (fun w => ⟨_, Try.sizeOf40 w⟩) rfl rfl ?_
   refine WL_nil ?_
   refine WA_tk 5 (by kernel_rfl) rfl rfl (fl_move rfl) ?_
   refine WL_move rfl rfl ?_
   refine WL_nil ?_
   refine WA_tk 6 (by kernel_rfl) rfl rfl (fl_nilCheck rfl) ?_
   refine WL_nilCheck rfl rfl ?_
   refine WL_nil ?_
   refine WA_tk 7 (by kernel_rfl) rfl rfl (fl_field Try.underlying80 rfl rfl (fun w => ⟨_, Try.sizeOf3 w⟩) rfl) ?_
   refine WL_field Try.underlying80 rfl rfl (fun w => ⟨_, Try.sizeOf3 w⟩) rfl rfl ?_
   refine WL_nil ?_
   refine WA.sub (l' := [(0, (ptr pb1 0)), (2, (.int .i64 0)), (3, (.int .i64 (band (bxor (shr (w64 ((w64 (a1.2.2 * 6364136223846793005)) + 1442695040888963407)) 33) (shr (w64 ((w64 (a1.2.2 * 6364136223846793005)) + 1442695040888963407)) 45)) 255))), (4, (ptr pb1 0)), (5, (ptr pb1 0)), (6, (ptr pb1 0)), (7, (ptr pb1 2)), (8, (.int .i64 a1.2.2)), (9, (.int .i64 (w64 (a1.2.2 * 6364136223846793005)))), (10, (.int .i64 (w64 ((w64 (a1.2.2 * 6364136223846793005)) + 1442695040888963407)))), (11, (ptr pb1 0)), (12, (ptr pb1 2)), (13, (ptr pb1 0)), (14, (ptr pb1 0)), (15, (ptr pb1 2)), (16, (.int .i64 (w64 ((w64 (a1.2.2 * 6364136223846793005)) + 1442695040888963407)))), (17, (.int .i64 (shr (w64 ((w64 (a1.2.2 * 6364136223846793005)) + 1442695040888963407)) 33))), (18, (ptr pb1 0)), (19, (ptr pb1 0)), (20, (ptr pb1 2)), (21, (.int .i64 (w64 ((w64 (a1.2.2 * 6364136223846793005)) + 1442695040888963407)))), (22, (.int .i64 (shr (w64 ((w64 (a1.2.2 * 6364136223846793005)) + 1442695040888963407)) 45))), (23, (.int .i64 (bxor (shr (w64 ((w64 (a1.2.2 * 6364136223846793005)) + 1442695040888963407)) 33) (shr (w64 ((w64 (a1.2.2 * 6364136223846793005)) + 1442695040888963407)) 45)))), (24, (.int .i64 (band (bxor (shr (w64 ((w64 (a1.2.2 * 6364136223846793005)) + 1442695040888963407)) 33) (shr (w64 ((w64 (a1.2.2 * 6364136223846793005)) + 1442695040888963407)) 45)) 255))), (25, (ptr pb1 0)), (26, (ptr pb1 0)), (27, (ptr pb1 1)), (28, (.int .i64 a1.2.1)), (29, (ptr pb1 0)), (30, (ptr pb1 0)), (31, (ptr pb1 0)), (32, u1), (33, (.int .i64 (List.length a1.1 : Int))), (34, (.bool (decide (a1.2.1 < (List.length a1.1 : Int))))), (35, (.int .i64 (band (bxor (shr (w64 ((w64 (a1.2.2 * 6364136223846793005)) + 1442695040888963407)) 33) (shr (w64 ((w64 (a1.2.2 * 6364136223846793005)) + 1442695040888963407)) 45)) 255))), (36, (ptr pb1 0)), (37, (ptr pb1 0)), (38, (ptr pb1 0)), (40, (ptr pb1 0)), (41, (ptr pb1 0)), (42, (ptr pb1 1))]) ?_ ⟨rfl, rfl, rfl, rfl, rfl, rfl, rfl, rfl, rfl, rfl, rfl, rfl, rfl, rfl, rfl, rfl, rfl, rfl, rfl, rfl, rfl, rfl, rfl, rfl, rfl, rfl, rfl, rfl, rfl, rfl, rfl, rfl, rfl, rfl, rfl, rfl, rfl, rfl, rfl, rfl, rfl, trivial⟩
   refine WA_postsE [⟨4, [], fun vs => PW.val u1, []⟩, ⟨8, [], fun vs => PW.val (.int .i64 a1.2.1), []⟩] [[], []] 6 rfl (by kernel_rfl) (by kernel_rfl) rfl ?_ ?_
   ·refine StepsE_cons rfl ?_ ?_
    ·intro w11 hB9
     refine DepsE_nil ?_
     refine ⟨_, rfl, ?_⟩
     refine WL_load_box (hC7.grow hB9) 0 rfl rfl Try.isAgg40 rfl rfl ?_
     refine WL_nil ?_
     exact FinE_val (Below.refl _ _) rfl rfl ⟨rfl, rfl⟩
    refine StepsE_cons rfl ?_ ?_
    ·intro w11 hB9
     refine DepsE_nil ?_
     refine ⟨_, rfl, ?_⟩
     refine WL_load_box (hC7.grow hB9) 0 rfl rfl Try.isAgg3 rfl rfl ?_
     refine WL_nil ?_
     exact FinE_val (Below.refl _ _) rfl rfl ⟨rfl, rfl⟩
    exact StepsE_nil
   intro w12 hB10
   refine AllE_cons rfl rfl rfl ?_
   rintro _ _ ⟨rfl, rfl⟩
   refine AllE_cons rfl rfl rfl ?_
   rintro _ _ ⟨rfl, rfl⟩
   refine AllE_nil ?_
   intro hn3 hb3
   have hC8 := hC7.grow hB10
   obtain ⟨x4, hx1, hr1⟩ := bind_some hr1
   refine WA_tk 9 (by kernel_rfl) rfl rfl (fl_index Try.underlying40 ty5 g1 hx1 rfl rfl) ?_
   refine WL_index Try.underlying40 ty5 g1 hx1 rfl rfl rfl (fun b1 o1 h1 => ?_)
   refine WL_nil ?_
   refine WA_one 10 (by kernel_rfl) rfl ?_
   refine WL_load ty5 h1 hC8.keep rfl rfl (fun v1 h2 => ?_)
   obtain rfl := ro_u8 h2
   refine WL_nil ?_
   refine WA_tk 11 (by kernel_rfl) rfl rfl (fl_conv_int Try.underlying5 Try.underlying3 rfl) ?_
   refine WL_conv_i64 Try.underlying5 Try.underlying3 rfl rfl ?_
   refine WL_nil ?_
   refine WA_tk 12 (by kernel_rfl) rfl rfl (fl_add rfl rfl) ?_
   refine WL_add rfl rfl rfl ?_
   refine WL_nil ?_
   refine WA_tk 13 (by kernel_rfl) rfl rfl (fl_band rfl rfl) ?_
   refine WL_band rfl rfl rfl ?_
   refine WL_nil ?_
   refine WA_tk 14 (by kernel_rfl) rfl rfl (fl_assign rfl) ?_
   refine WL_assign rfl rfl ?_
   refine WL_nil ?_
   refine WA_done (by kernel_rfl) ?_
   refine nrm_normal ?_
   refine W_reg ?_
   refine WL_move rfl rfl ?_
   refine WL_move rfl rfl ?_
   refine WL_nilCheck rfl rfl ?_
   refine WL_field Try.underlying80 rfl rfl (fun w => ⟨_, Try.sizeOf3 w⟩) rfl rfl ?_
   refine WL_load_box hC8 0 rfl rfl Try.isAgg3 rfl rfl ?_
   refine WL_add rfl rfl rfl ?_
   refine WL_nilCheck rfl rfl ?_
   refine WL_field Try.underlying80 rfl rfl (fun w => ⟨_, Try.sizeOf3 w⟩) rfl rfl ?_
   refine WL_store_boxK (cs' := [u1, (.int .i64 (w64 (a1.2.1 + 1))), (.int .i64 (w64 ((w64 (a1.2.2 * 6364136223846793005)) + 1442695040888963407)))]) hC8 0 rfl rfl rfl rfl Try.sizeOf3 rfl rfl (fun w13 hC9 hKp2 => ?_)
   try dsimp only [List.set] at hC9
   refine WL_nil ?_
   have hq1 := Option.some.inj hr1
   subst hq1
   refine nrm_sub (l' := [(3, (.int .i64 (band (w64 ((band (bxor (shr (w64 ((w64 (a1.2.2 * 6364136223846793005)) + 1442695040888963407)) 33) (shr (w64 ((w64 (a1.2.2 * 6364136223846793005)) + 1442695040888963407)) 45)) 255) + (w64 (UInt8.toNat x4 : Int)))) 255)))]) ⟨rfl, trivial⟩ ?_
   exact ⟨w64 (a1.2.1 + 1), w64 ((w64 (a1.2.2 * 6364136223846793005)) + 1442695040888963407), band (w64 ((band (bxor (shr (w64 ((w64 (a1.2.2 * 6364136223846793005)) + 1442695040888963407)) 33) (shr (w64 ((w64 (a1.2.2 * 6364136223846793005)) + 1442695040888963407)) 45)) 255) + (w64 (UInt8.toNat x4 : Int)))) 255, rfl, rfl, hC9⟩
  replace hr1 := ite_f hr1 hc1
  refine W_skip ?_
  have hq2 := Option.some.inj hr1
  subst hq2
  refine nrm_sub (l' := [(3, (.int .i64 (band (bxor (shr (w64 ((w64 (a1.2.2 * 6364136223846793005)) + 1442695040888963407)) 33) (shr (w64 ((w64 (a1.2.2 * 6364136223846793005)) + 1442695040888963407)) 45)) 255)))]) ⟨rfl, trivial⟩ ?_
  exact ⟨a1.2.1, w64 ((w64 (a1.2.2 * 6364136223846793005)) + 1442695040888963407), band (bxor (shr (w64 ((w64 (a1.2.2 * 6364136223846793005)) + 1442695040888963407)) 33) (shr (w64 ((w64 (a1.2.2 * 6364136223846793005)) + 1442695040888963407)) 45)) 255, rfl, rfl, hC5⟩
 rintro l1 _ w9 hs1 ⟨x1, x2, x3, rfl, rfl, hC6⟩
 try dsimp only at hF
 refine nrm_sub' hs1 ?_
 clear hs1
 refine W_seq_reg ?_
 refine WL_move rfl rfl ?_
 refine WL_assign rfl rfl ?_
 refine WL_nil ?_
 refine W_ret ?_
 have hq3 := Option.some.inj hF
 subst hq3
 refine fn_ret1 rfl rfl ?_
 exact ⟨_, rfl, rfl, hC6⟩

theorem c_S_l1Below {w0 : World} {Fs : List (List Nat)} (pb1 : Nat) (a1 : ((List UInt8) × Int × Int)) (u1 : Value) (g1 : RO Fs.flatten w0 u1 a1.1) (a2 : Int) (hH : Hold [Item.box pb1 [u1, (.int .i64 a1.2.1), (.int .i64 a1.2.2)]] w0 Fs) (hn : Fs.flatten.Nodup) (rr : (Int × ((List UInt8) × Int × Int))) (hF : S.l1Below a1 a2 = some rr) :
 Calls Try.prog 41 [(ptr pb1 0), (.int .i64 a2)].toArray w0 fun e w' => ∃ v, e = .returned v ∧ v = (.int .i64 rr.1) ∧ Ctx Fs.flatten w0 w' [Item.box pb1 [u1, (.int .i64 rr.2.2.1), (.int .i64 rr.2.2.2)]] := by
 refine calls_of_W Try.func41 rfl rfl ?_
 have hC0 := Ctx.startIn hH hn
 unfold S.l1Below at hF
 refine W_seq_reg ?_
 refine WL_assign rfl rfl ?_
 refine WL_nil ?_
 refine W_seq ?_
 refine W_seq_reg ?_
 refine WL_move rfl rfl ?_
 refine WL_leq rfl rfl rfl ?_
 refine WL_nil ?_
 refine W_cond rfl (fun hc1 => ?_) (fun hc1 => ?_)
 ·replace hF := ite_t hF hc1
  refine W_seq_reg ?_
  refine WL_assign rfl rfl ?_
  refine WL_nil ?_
  refine W_ret ?_
  refine nrm_ret ?_
  have hq1 := Option.some.inj hF
  subst hq1
  refine fn_ret1 rfl rfl ?_
  exact ⟨_, rfl, rfl, hC0⟩
 replace hF := ite_f hF hc1
 refine W_skip ?_
 refine nrm_normal ?_
 refine W_seq ?_
 refine W_seq_reg ?_
 refine WL_move rfl rfl ?_
 refine WL_leq rfl rfl rfl ?_
 refine WL_nil ?_
 refine W_cond rfl (fun hc2 => ?_) (fun hc2 => ?_)
 ·replace hF := ite_t hF hc2
  refine W_seq_reg ?_
  refine WL_move rfl rfl ?_
  obtain ⟨x1, hr1, hF⟩ := bind_some hF
  obtain ⟨Fs1, hH1, hn1, hF1, hO1, hb1⟩ := Ctx.lend2 (As := []) [Item.box pb1 [u1, (.int .i64 a1.2.1), (.int .i64 a1.2.2)]] hC0
  refine WL_call Try.call53 rfl rfl (c_S_l1Byte pb1 (a1.1, a1.2.1, a1.2.2) u1 (RO.lent g1 hC0.keep hF1) hH1 hn1 x1 hr1) ?_
  rintro _ w1 ⟨rfl, hq2⟩
  have hC1 : Ctx Fs.flatten w0 w1 [Item.box pb1 [u1, (.int .i64 x1.2.2.1), (.int .i64 x1.2.2.2)]] := hb1 _ _ hq2
  refine WL_move rfl rfl ?_
  obtain ⟨_, hx1, hF⟩ := bind_some hF
  refine WL_rem (nz_some hx1) rfl rfl rfl ?_
  refine WL_assign rfl rfl ?_
  refine WL_nil ?_
  refine W_ret ?_
  refine nrm_ret ?_
  have hq3 := Option.some.inj hF
  subst hq3
  refine fn_ret1 rfl rfl ?_
  exact ⟨_, rfl, rfl, hC1⟩
 replace hF := ite_f hF hc2
 refine W_skip ?_
 refine nrm_normal ?_
 refine W_seq_reg ?_
 refine WL_move rfl rfl ?_
 obtain ⟨x2, hr2, hF⟩ := bind_some hF
 obtain ⟨Fs2, hH2, hn2, hF2, hO2, hb2⟩ := Ctx.lend2 (As := []) [Item.box pb1 [u1, (.int .i64 a1.2.1), (.int .i64 a1.2.2)]] hC0
 refine WL_call Try.call53 rfl rfl (c_S_l1Byte pb1 (a1.1, a1.2.1, a1.2.2) u1 (RO.lent g1 hC0.keep hF2) hH2 hn2 x2 hr2) ?_
 rintro _ w2 ⟨rfl, hq4⟩
 have hC2 : Ctx Fs.flatten w0 w2 [Item.box pb1 [u1, (.int .i64 x2.2.2.1), (.int .i64 x2.2.2.2)]] := hb2 _ _ hq4
 refine WL_assign rfl rfl ?_
 refine WL_nil ?_
 refine W_seq_reg ?_
 refine WL_move rfl rfl ?_
 obtain ⟨x3, hr3, hF⟩ := bind_some hF
 obtain ⟨Fs3, hH3, hn3, hF3, hO3, hb3⟩ := Ctx.lend2 (As := []) [Item.box pb1 [u1, (.int .i64 x2.2.2.1), (.int .i64 x2.2.2.2)]] hC2
 refine WL_call Try.call53 rfl rfl (c_S_l1Byte pb1 (a1.1, x2.2.2.1, x2.2.2.2) u1 (RO.lent g1 hC2.keep hF3) hH3 hn3 x3 hr3) ?_
 rintro _ w3 ⟨rfl, hq5⟩
 have hC3 : Ctx Fs.flatten w0 w3 [Item.box pb1 [u1, (.int .i64 x3.2.2.1), (.int .i64 x3.2.2.2)]] := hb3 _ _ hq5
 refine WL_assign rfl rfl ?_
 refine WL_nil ?_
 refine W_seq_reg ?_
 refine WL_move rfl rfl ?_
 obtain ⟨x4, hr4, hF⟩ := bind_some hF
 obtain ⟨Fs4, hH4, hn4, hF4, hO4, hb4⟩ := Ctx.lend2 (As := []) [Item.box pb1 [u1, (.int .i64 x3.2.2.1), (.int .i64 x3.2.2.2)]] hC3
 refine WL_call Try.call53 rfl rfl (c_S_l1Byte pb1 (a1.1, x3.2.2.1, x3.2.2.2) u1 (RO.lent g1 hC3.keep hF4) hH4 hn4 x4 hr4) ?_
 rintro _ w4 ⟨rfl, hq6⟩
 have hC4 : Ctx Fs.flatten w0 w4 [Item.box pb1 [u1, (.int .i64 x4.2.2.1), (.int .i64 x4.2.2.2)]] := hb4 _ _ hq6
 refine WL_assign rfl rfl ?_
 refine WL_nil ?_
 refine W_seq_reg ?_
 refine WL_move rfl rfl ?_
 obtain ⟨x5, hr5, hF⟩ := bind_some hF
 obtain ⟨Fs5, hH5, hn5, hF5, hO5, hb5⟩ := Ctx.lend2 (As := []) [Item.box pb1 [u1, (.int .i64 x4.2.2.1), (.int .i64 x4.2.2.2)]] hC4
 refine WL_call Try.call53 rfl rfl (c_S_l1Byte pb1 (a1.1, x4.2.2.1, x4.2.2.2) u1 (RO.lent g1 hC4.keep hF5) hH5 hn5 x5 hr5) ?_
 rintro _ w5 ⟨rfl, hq7⟩
 have hC5 : Ctx Fs.flatten w0 w5 [Item.box pb1 [u1, (.int .i64 x5.2.2.1), (.int .i64 x5.2.2.2)]] := hb5 _ _ hq7
 refine WL_assign rfl rfl ?_
 refine WL_nil ?_
 refine W_seq_reg ?_
 refine WL_move rfl rfl ?_
 refine WL_mul rfl rfl rfl ?_
 refine WL_move rfl rfl ?_
 refine WL_mul rfl rfl rfl ?_
 refine WL_add rfl rfl rfl ?_
 refine WL_move rfl rfl ?_
 refine WL_mul rfl rfl rfl ?_
 refine WL_add rfl rfl rfl ?_
 refine WL_move rfl rfl ?_
 refine WL_add rfl rfl rfl ?_
 refine WL_move rfl rfl ?_
 obtain ⟨_, hx2, hF⟩ := bind_some hF
 refine WL_rem (nz_some hx2) rfl rfl rfl ?_
 refine WL_assign rfl rfl ?_
 refine WL_nil ?_
 refine W_ret ?_
 have hq8 := Option.some.inj hF
 subst hq8
 refine fn_ret1 rfl rfl ?_
 exact ⟨_, rfl, rfl, hC5⟩

theorem c_S_l1Once {w0 : World} {Fs : List (List Nat)} (pb1 : Nat) (a1 : ((List UInt8) × Int × Int)) (u1 : Value) (g1 : RO Fs.flatten w0 u1 a1.1) (a2 : Int) (hH : Hold [Item.box pb1 [u1, (.int .i64 a1.2.1), (.int .i64 a1.2.2)]] w0 Fs) (hn : Fs.flatten.Nodup) (rr : (Bool × ((List UInt8) × Int × Int))) (hF : S.l1Once a1 a2 = some rr) :
 Calls Try.prog 56 [(ptr pb1 0), (.int .i64 a2)].toArray w0 fun e w' => ∃ v, e = .returned v ∧ v = (.bool rr.1) ∧ Ctx Fs.flatten w0 w' [Item.box pb1 [u1, (.int .i64 rr.2.2.1), (.int .i64 rr.2.2.2)]] := by
 refine calls_of_W Try.func56 rfl rfl ?_
 have hC0 := Ctx.startIn hH hn
 unfold S.l1Once at hF
 refine W_seq_reg ?_
 refine WL_assign rfl rfl ?_
 refine WL_nil ?_
 refine W_seq_reg ?_
 refine WL_move rfl rfl ?_
 refine WL_move rfl rfl ?_
 obtain ⟨x1, hr1, hF⟩ := bind_some hF
 obtain ⟨Fs1, hH1, hn1, hF1, hO1, hb1⟩ := Ctx.lend2 (As := []) [Item.box pb1 [u1, (.int .i64 a1.2.1), (.int .i64 a1.2.2)]] hC0
 refine WL_call Try.call41 rfl rfl (c_S_l1Below pb1 (a1.1, a1.2.1, a1.2.2) u1 (RO.lent g1 hC0.keep hF1) a2 hH1 hn1 x1 hr1) ?_
 rintro _ w1 ⟨rfl, hq1⟩
 have hC1 : Ctx Fs.flatten w0 w1 [Item.box pb1 [u1, (.int .i64 x1.2.2.1), (.int .i64 x1.2.2.2)]] := hb1 _ _ hq1
 refine WL_eql rfl rfl rfl ?_
 refine WL_assign rfl rfl ?_
 refine WL_nil ?_
 refine W_ret ?_
 have hq2 := Option.some.inj hF
 subst hq2
 refine fn_ret1 rfl rfl ?_
 exact ⟨_, rfl, rfl, hC1⟩

theorem c_S_l2Schema {w0 : World} {Fs : List (List Nat)} (pb1 : Nat) (a1 : ((List UInt8) × Int × Int)) (u1 : Value) (g1 : RO Fs.flatten w0 u1 a1.1) (hH : Hold [Item.box pb1 [u1, (.int .i64 a1.2.1), (.int .i64 a1.2.2)]] w0 Fs) (hn : Fs.flatten.Nodup) (rr : ((List Int) × ((List UInt8) × Int × Int))) (hF : S.l2Schema a1 = some rr) :
 Calls Try.prog 47 [(ptr pb1 0)].toArray w0 fun e w' => ∃ v, e = .returned v ∧ ∃ q0 : Value, v = q0 ∧ Ctx Fs.flatten w0 w' [Item.own q0 (rr.1 : (List Int)), Item.box pb1 [u1, (.int .i64 rr.2.2.1), (.int .i64 rr.2.2.2)]] := by
 refine calls_of_W Try.func47 rfl rfl ?_
 have hC0 := Ctx.startIn hH hn
 unfold S.l2Schema at hF
 refine W_seq_reg ?_
 refine WL_assign rfl rfl ?_
 refine WL_nil ?_
 refine W_seq_reg ?_
 refine WL_buildSlice (vs := []) hC0 Try.underlying26 ty3 rfl rfl rfl rfl (by simp) rfl rfl (fun b1 w1 hC1 hB1 => ?_)
 have hC2 := hC1.row0 (α := Int)
 have hC3 := hC2.front 1 rfl
 dsimp only [List.eraseIdx, List.cons_append, List.nil_append, List.append_nil] at hC3
 have hC4 : Ctx Fs.flatten w0 w1 (Item.own (.slice (some ⟨b1, 0, none⟩) 0 0) (([] : List Int) : List Int) :: [Item.box pb1 [u1, (.int .i64 a1.2.1), (.int .i64 a1.2.2)]]) := hC3.rowOwn (by simp [maxLen])
 refine WL_assign rfl rfl ?_
 refine WL_nil ?_
 refine W_seq ?_
 refine W_seq_reg ?_
 refine WL_move rfl rfl ?_
 obtain ⟨x1, hr1, hF⟩ := bind_some hF
 have hC5 := hC4.f1
 obtain ⟨Fs1, hH1, hn1, hF1, hO1, hb1⟩ := Ctx.lend2 (As := [Item.own (.slice (some ⟨b1, 0, none⟩) 0 0) (([] : List Int) : (List Int))]) [Item.box pb1 [u1, (.int .i64 a1.2.1), (.int .i64 a1.2.2)]] hC5
 refine WL_call Try.call41 rfl rfl (c_S_l1Below pb1 (a1.1, a1.2.1, a1.2.2) u1 (RO.lent g1 hC5.keep hF1) 3 hH1 hn1 x1 hr1) ?_
 rintro _ w2 ⟨rfl, hq1⟩
 have hC6 : Ctx Fs.flatten w0 w2 [Item.box pb1 [u1, (.int .i64 x1.2.2.1), (.int .i64 x1.2.2.2)], Item.own (.slice (some ⟨b1, 0, none⟩) 0 0) (([] : List Int) : (List Int))] := hb1 _ _ hq1
 refine WL_add rfl rfl rfl ?_
 refine WL_assign rfl rfl ?_
 refine WL_nil ?_
 obtain ⟨r1, hr2, hF⟩ := bind_some hF
 refine W_norm (fun l w => ∃ x6 : Int, ∃ x7 : Int, ∃ v2 : Value, ∃ x8 : (List Int), (x6, x7, x8) = r1 ∧ l = [(3, v2)] ∧ Ctx Fs.flatten w0 w [Item.box pb1 [u1, (.int .i64 x6), (.int .i64 x7)], Item.own v2 (x8 : (List Int))]) ?_ ?_
 ·refine W_block ?_
  refine W.sub (l' := [(0, (ptr pb1 0)), (3, (.slice (some ⟨b1, 0, none⟩) 0 0)), (4, (.int .i64 (w64 (1 + x1.1))))]) ?_ ⟨rfl, rfl, rfl, trivial⟩
  refine W_loop (fun k l w => ∃ x2 : Int, ∃ x3 : Int, ∃ v1 : Value, ∃ x4 : (List Int), ∃ x5 : Int, l = [(0, (ptr pb1 0)), (3, v1), (4, (.int .i64 x5))] ∧ Ctx Fs.flatten w0 w [Item.box pb1 [u1, (.int .i64 x2), (.int .i64 x3)], Item.own v1 (x4 : (List Int))] ∧ S.l2Schema_l1 a1 k x2 x3 x4 x5 = some r1) FUEL ⟨x1.2.2.1, x1.2.2.2, (.slice (some ⟨b1, 0, none⟩) 0 0), ([] : List Int), w64 (1 + x1.1), rfl, hC6, hr2⟩ ?_
  clear hr2
  rintro k1 _ w3 ⟨x2, x3, v1, x4, x5, rfl, hC7, hL1⟩
  cases k1 with
  | zero => rw [S.l2Schema_l1] at hL1; cases hL1
  | succ k1 =>
   rw [S.l2Schema_l1] at hL1
   refine W_seq ?_
   refine W_seq_reg ?_
   refine WL_move rfl rfl ?_
   refine WL_gtr rfl rfl rfl ?_
   refine WL_nil ?_
   refine W_cond rfl (fun hc1 => ?_) (fun hc1 => ?_)
   ·replace hL1 := ite_t hL1 hc1
    refine W_skip ?_
    refine nrm_normal ?_
    refine W_seq ?_
    refine W_block ?_
    refine W_seq_reg ?_
    refine WL_move rfl rfl ?_
    obtain ⟨x9, hr3, hL1⟩ := bind_some hL1
    obtain ⟨Fs2, hH2, hn2, hF2, hO2, hb2⟩ := Ctx.lend2 (As := [Item.own v1 (x4 : (List Int))]) [Item.box pb1 [u1, (.int .i64 x2), (.int .i64 x3)]] hC7
    refine WL_call Try.call41 rfl rfl (c_S_l1Below pb1 (a1.1, x2, x3) u1 (RO.lent g1 hC7.keep hF2) 2 hH2 hn2 x9 hr3) ?_
    rintro _ w4 ⟨rfl, hq2⟩
    have hC8 : Ctx Fs.flatten w0 w4 [Item.box pb1 [u1, (.int .i64 x9.2.2.1), (.int .i64 x9.2.2.2)], Item.own v1 (x4 : (List Int))] := hb2 _ _ hq2
    refine WL_add rfl rfl rfl ?_
    refine WL_assign rfl rfl ?_
    refine WL_nil ?_
    refine W_seq ?_
    refine W_seq_reg ?_
    refine WL_move rfl rfl ?_
    obtain ⟨x10, hr4, hL1⟩ := bind_some hL1
    obtain ⟨Fs3, hH3, hn3, hF3, hO3, hb3⟩ := Ctx.lend2 (As := [Item.own v1 (x4 : (List Int))]) [Item.box pb1 [u1, (.int .i64 x9.2.2.1), (.int .i64 x9.2.2.2)]] hC8
    refine WL_call Try.call56 rfl rfl (c_S_l1Once pb1 (a1.1, x9.2.2.1, x9.2.2.2) u1 (RO.lent g1 hC8.keep hF3) 4 hH3 hn3 x10 hr4) ?_
    rintro _ w5 ⟨rfl, hq3⟩
    have hC9 : Ctx Fs.flatten w0 w5 [Item.box pb1 [u1, (.int .i64 x10.2.2.1), (.int .i64 x10.2.2.2)], Item.own v1 (x4 : (List Int))] := hb3 _ _ hq3
    refine WL_nil ?_
    obtain ⟨r2, hr5, hL1⟩ := bind_some hL1
    refine W_norm (fun l w => ∃ x11 : Int, x11 = r2 ∧ l = [(0, (ptr pb1 0)), (3, v1), (4, (.int .i64 x5)), (5, (.int .i64 x11))] ∧ Below w5.heap.size w5 w ∧ Ctx Fs.flatten w0 w [Item.box pb1 [u1, (.int .i64 x10.2.2.1), (.int .i64 x10.2.2.2)], Item.own v1 (x4 : (List Int))]) ?_ ?_
    ·refine W_cond rfl (fun hc2 => ?_) (fun hc2 => ?_)
     ·replace hr5 := ite_t hr5 hc2
      refine W_reg ?_
      refine WL_assign rfl rfl ?_
      refine WL_nil ?_
      have hq4 := Option.some.inj hr5
      subst hq4
      refine nrm_sub (l' := [(0, (ptr pb1 0)), (3, v1), (4, (.int .i64 x5)), (5, (.int .i64 3))]) ⟨rfl, rfl, rfl, rfl, trivial⟩ ?_
      exact ⟨3, rfl, rfl, (Below.refl _ _), hC9⟩
     replace hr5 := ite_f hr5 hc2
     refine W_skip ?_
     have hq5 := Option.some.inj hr5
     subst hq5
     refine nrm_sub (l' := [(0, (ptr pb1 0)), (3, v1), (4, (.int .i64 x5)), (5, (.int .i64 (w64 (1 + x9.1))))]) ⟨rfl, rfl, rfl, rfl, trivial⟩ ?_
     exact ⟨w64 (1 + x9.1), rfl, rfl, (Below.refl _ _), hC9⟩
    rintro l2 _ w6 hs2 ⟨x11, rfl, rfl, hB3, hC10⟩
    try dsimp only at hL1
    refine nrm_sub' hs2 ?_
    clear hs2
    refine W_reg ?_
    refine WL_move rfl rfl ?_
    refine WL_move rfl rfl ?_
    refine WL_buildSlice (vs := [(.int .i64 x11)]) hC10 Try.underlying26 ty3 rfl rfl rfl rfl (by intro v hv; simp only [List.mem_cons, List.not_mem_nil, or_false] at hv; rcases hv with rfl <;> rfl) rfl rfl (fun b2 w7 hC11 hB4 => ?_)
    have hC12 := hC11.row0 (α := Int)
    have hC13 := hC12.triv (int_val (x11))
    have hC14 := hC13.row1
    have hC15 := hC14.front 1 rfl
    dsimp only [List.eraseIdx, List.cons_append, List.nil_append, List.append_nil] at hC15
    have hC16 : Ctx Fs.flatten w0 w7 (Item.own (.slice (some ⟨b2, 0, none⟩) 1 1) ([x11] : List Int) :: [Item.box pb1 [u1, (.int .i64 x10.2.2.1), (.int .i64 x10.2.2.2)], Item.own v1 (x4 : (List Int))]) := hC15.rowOwn (by simp [maxLen])
    obtain ⟨x12, hx1, hL1⟩ := bind_some hL1
    refine WL_append_flat (α := Int) hC16 2 rfl (hC16.ro 0 rfl) (Keep.refl _ _) Try.underlying26 ty3 rfl hx1 rfl rfl rfl (fun v3 w9 hC17 => ?_)
    try dsimp only [List.set] at hC17
    refine WL_assign rfl rfl ?_
    refine WL_nil ?_
    refine blk_normal ?_
    refine nrm_normal ?_
    refine W_reg ?_
    refine WL_move rfl rfl ?_
    refine WL_sub rfl rfl rfl ?_
    refine WL_assign rfl rfl ?_
    refine WL_nil ?_
    have hC18 := hC17.f2
    have hC19 := hC18.f2
    have hC20 := hC19.h2
    refine nrm_sub (l' := [(0, (ptr pb1 0)), (3, v3), (4, (.int .i64 (w64 (x5 - 1))))]) ⟨rfl, rfl, rfl, trivial⟩ ?_
    exact ⟨k1, Nat.lt_succ_self _, x10.2.2.1, x10.2.2.2, v3, x12, w64 (x5 - 1), rfl, hC20, hL1⟩
   replace hL1 := ite_f hL1 hc1
   refine W_exit ?_
   refine nrm_exit ?_
   refine nrm_exit ?_
   refine blk_exit ?_
   have hq6 := Option.some.inj hL1
   subst hq6
   refine nrm_sub (l' := [(3, v1)]) ⟨rfl, trivial⟩ ?_
   exact ⟨x2, x3, v1, x4, rfl, rfl, hC7⟩
 rintro l3 _ w10 hs3 ⟨x6, x7, v2, x8, rfl, rfl, hC21⟩
 try dsimp only at hF
 refine nrm_sub' hs3 ?_
 clear hs3
 refine W_seq_reg ?_
 refine WL_move rfl rfl ?_
 refine WL_assign rfl rfl ?_
 refine WL_nil ?_
 refine W_ret ?_
 have hq7 := Option.some.inj hF
 subst hq7
 refine fn_ret1 rfl rfl ?_
 have hC22 := hC21.f1
 exact ⟨_, rfl, _, rfl, hC22⟩

theorem c_S_l1PickInt {w0 : World} {Fs : List (List Nat)} (pb1 : Nat) (a1 : ((List UInt8) × Int × Int)) (u1 : Value) (g1 : RO Fs.flatten w0 u1 a1.1) (a2 : (List Int)) (u2 : Value) (g2 : RO Fs.flatten w0 u2 a2) (hH : Hold [Item.box pb1 [u1, (.int .i64 a1.2.1), (.int .i64 a1.2.2)]] w0 Fs) (hn : Fs.flatten.Nodup) (rr : (Int × ((List UInt8) × Int × Int))) (hF : S.l1PickInt a1 a2 = some rr) :
 Calls Try.prog 55 [(ptr pb1 0), u2].toArray w0 fun e w' => ∃ v, e = .returned v ∧ v = (.int .i64 rr.1) ∧ Ctx Fs.flatten w0 w' [Item.box pb1 [u1, (.int .i64 rr.2.2.1), (.int .i64 rr.2.2.2)]] := by
 refine calls_of_W Try.func55 rfl rfl ?_
 have hC0 := Ctx.startIn hH hn
 unfold S.l1PickInt at hF
 refine W_seq_reg ?_
 refine WL_assign rfl rfl ?_
 refine WL_nil ?_
 refine W_seq_reg ?_
 refine WL_move rfl rfl ?_
 refine WL_move rfl rfl ?_
 refine WL_move rfl rfl ?_
 refine WL_len Try.underlying26 g2 rfl rfl ?_
 obtain ⟨x1, hr1, hF⟩ := bind_some hF
 obtain ⟨Fs1, hH1, hn1, hF1, hO1, hb1⟩ := Ctx.lend2 (As := []) [Item.box pb1 [u1, (.int .i64 a1.2.1), (.int .i64 a1.2.2)]] hC0
 refine WL_call Try.call41 rfl rfl (c_S_l1Below pb1 (a1.1, a1.2.1, a1.2.2) u1 (RO.lent g1 hC0.keep hF1) (List.length a2 : Int) hH1 hn1 x1 hr1) ?_
 rintro _ w1 ⟨rfl, hq1⟩
 have hC1 : Ctx Fs.flatten w0 w1 [Item.box pb1 [u1, (.int .i64 x1.2.2.1), (.int .i64 x1.2.2.2)]] := hb1 _ _ hq1
 obtain ⟨x2, hx1, hF⟩ := bind_some hF
 refine WL_index Try.underlying26 ty3 g2 hx1 rfl rfl rfl (fun b1 o1 h1 => ?_)
 refine WL_load ty3 h1 hC1.keep rfl rfl (fun v1 h2 => ?_)
 obtain rfl := ro_int h2
 refine WL_assign rfl rfl ?_
 refine WL_nil ?_
 refine W_ret ?_
 have hq2 := Option.some.inj hF
 subst hq2
 refine fn_ret1 rfl rfl ?_
 exact ⟨_, rfl, rfl, hC1⟩

theorem c_S_l5Method {w0 : World} {Fs : List (List Nat)} (pb1 : Nat) (a1 : ((List UInt8) × Int × Int)) (u1 : Value) (g1 : RO Fs.flatten w0 u1 a1.1) (a2 : (List Int)) (u2 : Value) (g2 : RO Fs.flatten w0 u2 a2) (hH : Hold [Item.box pb1 [u1, (.int .i64 a1.2.1), (.int .i64 a1.2.2)]] w0 Fs) (hn : Fs.flatten.Nodup) (rr : ((Int × (List Int) × Int × Int × Int) × ((List UInt8) × Int × Int))) (hF : S.l5Method a1 a2 = some rr) :
 Calls Try.prog 57 [(ptr pb1 0), u2].toArray w0 fun e w' => ∃ v, e = .returned v ∧ ∃ q0 : Value, v = q0 ∧ Ctx Fs.flatten w0 w' [Item.own q0 (rr.1 : (Int × (List Int) × Int × Int × Int)), Item.box pb1 [u1, (.int .i64 rr.2.2.1), (.int .i64 rr.2.2.2)]] := by
 refine calls_of_W Try.func57 rfl rfl ?_
 have hC0 := Ctx.startIn hH hn
 unfold S.l5Method at hF
 refine W_seq_reg ?_
 refine WL_allocK hC0 zero47 rfl rfl (fun b1 w1 hC1 hB1 hN1 => ?_)
 refine WL_nil ?_
 refine W_seq_reg ?_
 refine WL_move rfl rfl ?_
 refine WL_move rfl rfl ?_
 refine WL_len Try.underlying26 g2 rfl rfl ?_
 obtain ⟨x1, hr1, hF⟩ := bind_some hF
 have hC2 := hC1.f1
 obtain ⟨Fs1, hH1, hn1, hF1, hO1, hb1⟩ := Ctx.lend2 (As := [Item.box b1 [(.int .i64 0), (.slice none 0 0), (.int .i64 0), (.int .i64 0), (.int .i64 0)]]) [Item.box pb1 [u1, (.int .i64 a1.2.1), (.int .i64 a1.2.2)]] hC2
 refine WL_call Try.call41 rfl rfl (c_S_l1Below pb1 (a1.1, a1.2.1, a1.2.2) u1 (RO.lent g1 hC2.keep hF1) (List.length a2 : Int) hH1 hn1 x1 hr1) ?_
 rintro _ w2 ⟨rfl, hq1⟩
 have hC3 : Ctx Fs.flatten w0 w2 [Item.box pb1 [u1, (.int .i64 x1.2.2.1), (.int .i64 x1.2.2.2)], Item.box b1 [(.int .i64 0), (.slice none 0 0), (.int .i64 0), (.int .i64 0), (.int .i64 0)]] := hb1 _ _ hq1
 refine WL_move rfl rfl ?_
 refine WL_buildSlice (vs := [(.int .i64 0), (.int .i64 0), (.int .i64 0), (.int .i64 1), (.int .i64 2)]) hC3 Try.underlying26 ty3 rfl rfl rfl rfl (by intro v hv; simp only [List.mem_cons, List.not_mem_nil, or_false] at hv; rcases hv with rfl | rfl | rfl | rfl | rfl <;> rfl) rfl rfl (fun b2 w3 hC4 hB2 => ?_)
 have hC5 := hC4.row0 (α := Int)
 have hC6 := hC5.triv (int_val (2))
 have hC7 := hC6.row1
 have hC8 := hC7.triv (int_val (1))
 have hC9 := hC8.row1
 have hC10 := hC9.triv (int_val (0))
 have hC11 := hC10.row1
 have hC12 := hC11.triv (int_val (0))
 have hC13 := hC12.row1
 have hC14 := hC13.triv (int_val (0))
 have hC15 := hC14.row1
 have hC16 := hC15.front 1 rfl
 dsimp only [List.eraseIdx, List.cons_append, List.nil_append, List.append_nil] at hC16
 have hC17 : Ctx Fs.flatten w0 w3 (Item.own (.slice (some ⟨b2, 0, none⟩) 5 5) ([0, 0, 0, 1, 2] : List Int) :: [Item.box pb1 [u1, (.int .i64 x1.2.2.1), (.int .i64 x1.2.2.2)], Item.box b1 [(.int .i64 0), (.slice none 0 0), (.int .i64 0), (.int .i64 0), (.int .i64 0)]]) := hC16.rowOwn (by simp [maxLen])
 obtain ⟨x2, hr2, hF⟩ := bind_some hF
 have hC18 := hC17.f1
 obtain ⟨Fs2, hH2, hn2, hF2, hO2, hb2⟩ := Ctx.lend2 (As := [Item.own (.slice (some ⟨b2, 0, none⟩) 5 5) ([0, 0, 0, 1, 2] : (List Int)), Item.box b1 [(.int .i64 0), (.slice none 0 0), (.int .i64 0), (.int .i64 0), (.int .i64 0)]]) [Item.box pb1 [u1, (.int .i64 x1.2.2.1), (.int .i64 x1.2.2.2)]] hC18
 refine WL_call Try.call55 rfl rfl (c_S_l1PickInt pb1 (a1.1, x1.2.2.1, x1.2.2.2) u1 (RO.lent g1 hC18.keep hF2) ([0, 0, 0, 1, 2]) (.slice (some ⟨b2, 0, none⟩) 5 5) (hO2 0 _ _ _ rfl) hH2 hn2 x2 hr2) ?_
 rintro _ w4 ⟨rfl, hq2⟩
 have hC19 : Ctx Fs.flatten w0 w4 [Item.box pb1 [u1, (.int .i64 x2.2.2.1), (.int .i64 x2.2.2.2)], Item.own (.slice (some ⟨b2, 0, none⟩) 5 5) ([0, 0, 0, 1, 2] : (List Int)), Item.box b1 [(.int .i64 0), (.slice none 0 0), (.int .i64 0), (.int .i64 0), (.int .i64 0)]] := hb2 _ _ hq2
 refine WL_move rfl rfl ?_
 obtain ⟨x3, hr3, hF⟩ := bind_some hF
 obtain ⟨Fs3, hH3, hn3, hF3, hO3, hb3⟩ := Ctx.lend2 (As := [Item.own (.slice (some ⟨b2, 0, none⟩) 5 5) ([0, 0, 0, 1, 2] : (List Int)), Item.box b1 [(.int .i64 0), (.slice none 0 0), (.int .i64 0), (.int .i64 0), (.int .i64 0)]]) [Item.box pb1 [u1, (.int .i64 x2.2.2.1), (.int .i64 x2.2.2.2)]] hC19
 refine WL_call Try.call41 rfl rfl (c_S_l1Below pb1 (a1.1, x2.2.2.1, x2.2.2.2) u1 (RO.lent g1 hC19.keep hF3) 5 hH3 hn3 x3 hr3) ?_
 rintro _ w5 ⟨rfl, hq3⟩
 have hC20 : Ctx Fs.flatten w0 w5 [Item.box pb1 [u1, (.int .i64 x3.2.2.1), (.int .i64 x3.2.2.2)], Item.own (.slice (some ⟨b2, 0, none⟩) 5 5) ([0, 0, 0, 1, 2] : (List Int)), Item.box b1 [(.int .i64 0), (.slice none 0 0), (.int .i64 0), (.int .i64 0), (.int .i64 0)]] := hb3 _ _ hq3
 refine WL_move rfl rfl ?_
 obtain ⟨x4, hr4, hF⟩ := bind_some hF
 obtain ⟨Fs4, hH4, hn4, hF4, hO4, hb4⟩ := Ctx.lend2 (As := [Item.own (.slice (some ⟨b2, 0, none⟩) 5 5) ([0, 0, 0, 1, 2] : (List Int)), Item.box b1 [(.int .i64 0), (.slice none 0 0), (.int .i64 0), (.int .i64 0), (.int .i64 0)]]) [Item.box pb1 [u1, (.int .i64 x3.2.2.1), (.int .i64 x3.2.2.2)]] hC20
 refine WL_call Try.call41 rfl rfl (c_S_l1Below pb1 (a1.1, x3.2.2.1, x3.2.2.2) u1 (RO.lent g1 hC20.keep hF4) 6 hH4 hn4 x4 hr4) ?_
 rintro _ w6 ⟨rfl, hq4⟩
 have hC21 : Ctx Fs.flatten w0 w6 [Item.box pb1 [u1, (.int .i64 x4.2.2.1), (.int .i64 x4.2.2.2)], Item.own (.slice (some ⟨b2, 0, none⟩) 5 5) ([0, 0, 0, 1, 2] : (List Int)), Item.box b1 [(.int .i64 0), (.slice none 0 0), (.int .i64 0), (.int .i64 0), (.int .i64 0)]] := hb4 _ _ hq4
 refine WL_add rfl rfl rfl ?_
 refine WL_build (vs := [(0, (.int .i64 x1.1)), (2, (.int .i64 x2.1)), (3, (.int .i64 x3.1)), (4, (.int .i64 (w64 (1 + x4.1))))]) rfl rfl rfl (built47_0_2_3_4 rfl rfl rfl rfl) ?_
 refine WL_allocK hC21 zero47 rfl rfl (fun b3 w7 hC22 hB3 hN2 => ?_)
 refine WL_store_box_aggK (cs' := [(.int .i64 x1.1), (.slice none 0 0), (.int .i64 x2.1), (.int .i64 x3.1), (.int .i64 (w64 (1 + x4.1)))]) (new := [(.int .i64 x1.1), (.slice none 0 0), (.int .i64 x2.1), (.int .i64 x3.1), (.int .i64 (w64 (1 + x4.1)))]) hC22 0 rfl rfl (by intro v hv; simp only [List.mem_cons, List.not_mem_nil, or_false] at hv; rcases hv with rfl | rfl | rfl | rfl | rfl; exact rfl; exact rfl; exact rfl; exact rfl; exact rfl) rfl Try.sizeOf47 rfl rfl (fun w9 hC23 hKp1 => ?_)
 try dsimp only [List.set] at hC23
 have hk1 := Keep.over (Keep.of hB3) hN2 hKp1
 refine WL_nil ?_
 refine W_seq ?_
 refine W_seq_reg ?_
 refine WL_assign rfl rfl ?_
 refine WL_nil ?_
 obtain ⟨r1, hr5, hF⟩ := bind_some hF
 refine W_norm (fun l w => ∃ x13 : Int, ∃ v2 : Value, ∃ x14 : (List Int), ∃ x15 : Int, ∃ x16 : Int, ∃ x17 : Int, ∃ x18 : Int, ∃ x19 : Int, (x13, x14, x15, x16, x17, x18, x19) = r1 ∧ l = [(4, (ptr b1 0)), (5, (ptr b3 0))] ∧ Ctx Fs.flatten w0 w [Item.own v2 (x14 : (List Int)), Item.box b3 [(.int .i64 x13), v2, (.int .i64 x15), (.int .i64 x16), (.int .i64 x17)], Item.box pb1 [u1, (.int .i64 x18), (.int .i64 x19)], Item.box b1 [(.int .i64 0), (.slice none 0 0), (.int .i64 0), (.int .i64 0), (.int .i64 0)]]) ?_ ?_
 ·refine W_block ?_
  have hC45 := hC23.triv (nil_val (α := Int))
  have hC46 := hC45.f4
  have hC47 := hC46.f3
  have hC48 := hC47.f3
  have hC49 := hC48.f3
  have hC50 := hC49.h4
  refine W.sub (l' := [(0, (ptr pb1 0)), (1, u2), (4, (ptr b1 0)), (5, (ptr b3 0)), (6, (.int .i64 0))]) ?_ ⟨rfl, rfl, rfl, rfl, rfl, trivial⟩
  refine W_loop (fun k l w => ∃ x5 : Int, ∃ v1 : Value, ∃ x6 : (List Int), ∃ x7 : Int, ∃ x8 : Int, ∃ x9 : Int, ∃ x10 : Int, ∃ x11 : Int, ∃ x12 : Int, l = [(0, (ptr pb1 0)), (1, u2), (4, (ptr b1 0)), (5, (ptr b3 0)), (6, (.int .i64 x12))] ∧ Ctx Fs.flatten w0 w [Item.own v1 (x6 : (List Int)), Item.box b3 [(.int .i64 x5), v1, (.int .i64 x7), (.int .i64 x8), (.int .i64 x9)], Item.box pb1 [u1, (.int .i64 x10), (.int .i64 x11)], Item.box b1 [(.int .i64 0), (.slice none 0 0), (.int .i64 0), (.int .i64 0), (.int .i64 0)]] ∧ S.l5Method_l1 a2 a1 k x5 x6 x7 x8 x9 x10 x11 x12 = some r1) FUEL ⟨x1.1, (.slice none 0 0), [], x2.1, x3.1, w64 (1 + x4.1), x4.2.2.1, x4.2.2.2, 0, rfl, hC50, hr5⟩ ?_
  clear hr5
  rintro k1 _ w10 ⟨x5, v1, x6, x7, x8, x9, x10, x11, x12, rfl, hC24, hL1⟩
  cases k1 with
  | zero => rw [S.l5Method_l1] at hL1; cases hL1
  | succ k1 =>
   rw [S.l5Method_l1] at hL1
   refine W_seq ?_
   refine W_seq_reg ?_
   refine WL_move rfl rfl ?_
   refine WL_move rfl rfl ?_
   refine WL_field Try.underlying47 rfl rfl (fun w => ⟨_, Try.sizeOf3 w⟩) rfl rfl ?_
   refine WL_load_box hC24 1 rfl rfl Try.isAgg3 rfl rfl ?_
   obtain ⟨x20, hx1, hL1⟩ := bind_some hL1
   refine WL_index Try.underlying26 ty3 g2 hx1 rfl rfl rfl (fun b4 o1 h1 => ?_)
   refine WL_load ty3 h1 hC24.keep rfl rfl (fun v3 h2 => ?_)
   obtain rfl := ro_int h2
   refine WL_lss rfl rfl rfl ?_
   refine WL_nil ?_
   refine W_cond rfl (fun hc1 => ?_) (fun hc1 => ?_)
   ·replace hL1 := ite_t hL1 hc1
    refine W_skip ?_
    refine nrm_normal ?_
    refine W_seq ?_
    refine W_block ?_
    refine W_seq_reg ?_
    refine WL_move rfl rfl ?_
    obtain ⟨x21, hr6, hL1⟩ := bind_some hL1
    have hC25 := hC24.f2
    obtain ⟨Fs5, hH5, hn5, hF5, hO5, hb5⟩ := Ctx.lend2 (As := [Item.own v1 (x6 : (List Int)), Item.box b3 [(.int .i64 x5), v1, (.int .i64 x7), (.int .i64 x8), (.int .i64 x9)], Item.box b1 [(.int .i64 0), (.slice none 0 0), (.int .i64 0), (.int .i64 0), (.int .i64 0)]]) [Item.box pb1 [u1, (.int .i64 x10), (.int .i64 x11)]] hC25
    refine WL_call Try.call56 rfl rfl (c_S_l1Once pb1 (a1.1, x10, x11) u1 (RO.lent g1 hC25.keep hF5) 3 hH5 hn5 x21 hr6) ?_
    rintro _ w11 ⟨rfl, hq5⟩
    have hC26 : Ctx Fs.flatten w0 w11 [Item.box pb1 [u1, (.int .i64 x21.2.2.1), (.int .i64 x21.2.2.2)], Item.own v1 (x6 : (List Int)), Item.box b3 [(.int .i64 x5), v1, (.int .i64 x7), (.int .i64 x8), (.int .i64 x9)], Item.box b1 [(.int .i64 0), (.slice none 0 0), (.int .i64 0), (.int .i64 0), (.int .i64 0)]] := hb5 _ _ hq5
    refine WL_nil ?_
    obtain ⟨r2, hr7, hL1⟩ := bind_some hL1
    refine W_norm (fun l w => ∃ x22 : Int, ∃ v4 : Value, ∃ x23 : (List Int), ∃ x24 : Int, ∃ x25 : Int, ∃ x26 : Int, (x22, x23, x24, x25, x26) = r2 ∧ l = [(0, (ptr pb1 0)), (1, u2), (4, (ptr b1 0)), (5, (ptr b3 0)), (6, (.int .i64 x12))] ∧ Ctx Fs.flatten w0 w [Item.box pb1 [u1, (.int .i64 x21.2.2.1), (.int .i64 x21.2.2.2)], Item.own v4 (x23 : (List Int)), Item.box b3 [(.int .i64 x22), v4, (.int .i64 x24), (.int .i64 x25), (.int .i64 x26)], Item.box b1 [(.int .i64 0), (.slice none 0 0), (.int .i64 0), (.int .i64 0), (.int .i64 0)]]) ?_ ?_
    ·refine W_cond rfl (fun hc2 => ?_) (fun hc2 => ?_)
     ·replace hr7 := ite_t hr7 hc2
      refine W_reg ?_
      refine WL_field Try.underlying47 rfl rfl (fun w => ⟨_, Try.sizeOf26 w⟩) rfl rfl ?_
      refine WL_load_box hC26 2 rfl rfl Try.isAgg26 rfl rfl ?_
      refine WL_move rfl rfl ?_
      refine WL_buildSlice (vs := [(.int .i64 x12)]) hC26 Try.underlying26 ty3 rfl rfl rfl rfl (by intro v hv; simp only [List.mem_cons, List.not_mem_nil, or_false] at hv; rcases hv with rfl <;> rfl) rfl rfl (fun b5 w13 hC28 hB6 => ?_)
      have hC29 := hC28.row0 (α := Int)
      have hC30 := hC29.triv (int_val (x12))
      have hC31 := hC30.row1
      have hC32 := hC31.front 1 rfl
      dsimp only [List.eraseIdx, List.cons_append, List.nil_append, List.append_nil] at hC32
      have hC33 : Ctx Fs.flatten w0 w13 (Item.own (.slice (some ⟨b5, 0, none⟩) 1 1) ([x12] : List Int) :: [Item.box pb1 [u1, (.int .i64 x21.2.2.1), (.int .i64 x21.2.2.2)], Item.own v1 (x6 : (List Int)), Item.box b3 [(.int .i64 x5), v1, (.int .i64 x7), (.int .i64 x8), (.int .i64 x9)], Item.box b1 [(.int .i64 0), (.slice none 0 0), (.int .i64 0), (.int .i64 0), (.int .i64 0)]]) := hC32.rowOwn (by simp [maxLen])
      obtain ⟨x27, hx2, hr7⟩ := bind_some hr7
      refine WL_append_flat (α := Int) hC33 2 rfl (hC33.ro 0 rfl) (Keep.refl _ _) Try.underlying26 ty3 rfl hx2 rfl rfl rfl (fun v5 w14 hC34 => ?_)
      try dsimp only [List.set] at hC34
      refine WL_field Try.underlying47 rfl rfl (fun w => ⟨_, Try.sizeOf26 w⟩) rfl rfl ?_
      refine WL_store_boxK (cs' := [(.int .i64 x5), v5, (.int .i64 x7), (.int .i64 x8), (.int .i64 x9)]) hC34 3 rfl rfl (ro_one (hC34.ro 2 rfl)) rfl Try.sizeOf26 rfl rfl (fun w15 hC35 hKp2 => ?_)
      try dsimp only [List.set] at hC35
      refine WL_nil ?_
      have hq6 := Option.some.inj hr7
      subst hq6
      have hC36 := hC35.f4
      have hC37 := hC36.f4
      have hC38 := hC37.f4
      have hC39 := hC38.f4
      have hC40 := hC39.h4
      refine nrm_sub (l' := [(0, (ptr pb1 0)), (1, u2), (4, (ptr b1 0)), (5, (ptr b3 0)), (6, (.int .i64 x12))]) ⟨rfl, rfl, rfl, rfl, rfl, trivial⟩ ?_
      exact ⟨x5, v5, x27, x7, x8, x9, rfl, rfl, hC40⟩
     replace hr7 := ite_f hr7 hc2
     refine W_skip ?_
     have hq7 := Option.some.inj hr7
     subst hq7
     refine nrm_sub (l' := [(0, (ptr pb1 0)), (1, u2), (4, (ptr b1 0)), (5, (ptr b3 0)), (6, (.int .i64 x12))]) ⟨rfl, rfl, rfl, rfl, rfl, trivial⟩ ?_
     exact ⟨x5, v1, x6, x7, x8, x9, rfl, rfl, hC26⟩
    rintro l2 _ w12 hs2 ⟨x22, v4, x23, x24, x25, x26, rfl, rfl, hC27⟩
    try dsimp only at hL1
    refine blk_normal ?_
    refine nrm_sub' hs2 ?_
    clear hs2
    refine W_reg ?_
    refine WL_move rfl rfl ?_
    refine WL_add rfl rfl rfl ?_
    refine WL_assign rfl rfl ?_
    refine WL_nil ?_
    have hC41 := hC27.f3
    have hC42 := hC41.f1
    have hC43 := hC42.f3
    have hC44 := hC43.f3
    refine nrm_sub (l' := [(0, (ptr pb1 0)), (1, u2), (4, (ptr b1 0)), (5, (ptr b3 0)), (6, (.int .i64 (w64 (x12 + 1))))]) ⟨rfl, rfl, rfl, rfl, rfl, trivial⟩ ?_
    exact ⟨k1, Nat.lt_succ_self _, x22, v4, x23, x24, x25, x26, x21.2.2.1, x21.2.2.2, w64 (x12 + 1), rfl, hC44, hL1⟩
   replace hL1 := ite_f hL1 hc1
   refine W_exit ?_
   refine nrm_exit ?_
   refine nrm_exit ?_
   refine blk_exit ?_
   have hq8 := Option.some.inj hL1
   subst hq8
   refine nrm_sub (l' := [(4, (ptr b1 0)), (5, (ptr b3 0))]) ⟨rfl, rfl, trivial⟩ ?_
   exact ⟨x5, v1, x6, x7, x8, x9, x10, x11, rfl, rfl, hC24⟩
 rintro l3 _ w16 hs3 ⟨x13, v2, x14, x15, x16, x17, x18, x19, rfl, rfl, hC51⟩
 try dsimp only at hF
 refine nrm_sub' hs3 ?_
 clear hs3
 refine W_seq_reg ?_
 refine WL_load_box_agg [(.int .i64 x13), v2, (.int .i64 x15), (.int .i64 x16), (.int .i64 x17)] hC51 1 rfl rfl rfl Try.isAgg47 Try.sizeOf47 rfl rfl ?_
 refine WL_store_box_aggK (cs' := [(.int .i64 x13), v2, (.int .i64 x15), (.int .i64 x16), (.int .i64 x17)]) (new := [(.int .i64 x13), v2, (.int .i64 x15), (.int .i64 x16), (.int .i64 x17)]) hC51 3 rfl rfl (by intro v hv; simp only [List.mem_cons, List.not_mem_nil, or_false] at hv; rcases hv with rfl | rfl | rfl | rfl | rfl; exact rfl; exact (ro_one (hC51.ro 0 rfl)); exact rfl; exact rfl; exact rfl) rfl Try.sizeOf47 rfl rfl (fun w17 hC52 hKp3 => ?_)
 try dsimp only [List.set] at hC52
 refine WL_nil ?_
 refine W_ret ?_
 have hq9 := Option.some.inj hF
 subst hq9
 refine fn_retG1 rfl (rv_cell_agg (cs' := [(.int .i64 x13), v2, (.int .i64 x15), (.int .i64 x16), (.int .i64 x17)]) hC52 (i := 3) rfl rfl rfl Try.isAgg47 Try.sizeOf47 rfl) ?_
 have hC53 := hC52.f2
 have hC55 := hC53.f1
 have hC54 := own_st47 x13 v2 x14 x15 x16 x17 hC55
 have hC56 := hC54.h2
 exact ⟨_, rfl, _, rfl, hC56⟩

theorem c_S_l5Methods {w0 : World} {Fs : List (List Nat)} (pb1 : Nat) (a1 : ((List UInt8) × Int × Int)) (u1 : Value) (g1 : RO Fs.flatten w0 u1 a1.1) (a2 : (List Int)) (u2 : Value) (g2 : RO Fs.flatten w0 u2 a2) (hH : Hold [Item.box pb1 [u1, (.int .i64 a1.2.1), (.int .i64 a1.2.2)]] w0 Fs) (hn : Fs.flatten.Nodup) (rr : ((List (Int × (List Int) × Int × Int × Int)) × ((List UInt8) × Int × Int))) (hF : S.l5Methods a1 a2 = some rr) :
 Calls Try.prog 48 [(ptr pb1 0), u2].toArray w0 fun e w' => ∃ v, e = .returned v ∧ ∃ q0 : Value, v = q0 ∧ Ctx Fs.flatten w0 w' [Item.own q0 (rr.1 : (List (Int × (List Int) × Int × Int × Int))), Item.box pb1 [u1, (.int .i64 rr.2.2.1), (.int .i64 rr.2.2.2)]] := by
 refine calls_of_W Try.func48 rfl rfl ?_
 have hC0 := Ctx.startIn hH hn
 unfold S.l5Methods at hF
 refine W_seq_reg ?_
 refine WL_assign rfl rfl ?_
 refine WL_nil ?_
 refine W_seq_reg ?_
 refine WL_buildSlice (vs := []) hC0 Try.underlying29 ty47 rfl rfl rfl rfl (by simp) rfl rfl (fun b1 w1 hC1 hB1 => ?_)
 have hC2 := hC1.row0 (α := (Int × (List Int) × Int × Int × Int))
 have hC3 := hC2.front 1 rfl
 dsimp only [List.eraseIdx, List.cons_append, List.nil_append, List.append_nil] at hC3
 have hC4 : Ctx Fs.flatten w0 w1 (Item.own (.slice (some ⟨b1, 0, none⟩) 0 0) (([] : List (Int × (List Int) × Int × Int × Int)) : List (Int × (List Int) × Int × Int × Int)) :: [Item.box pb1 [u1, (.int .i64 a1.2.1), (.int .i64 a1.2.2)]]) := hC3.rowOwn (by simp [maxLen])
 refine WL_assign rfl rfl ?_
 refine WL_nil ?_
 refine W_seq ?_
 refine W_seq_reg ?_
 refine WL_move rfl rfl ?_
 obtain ⟨x1, hr1, hF⟩ := bind_some hF
 have hC5 := hC4.f1
 obtain ⟨Fs1, hH1, hn1, hF1, hO1, hb1⟩ := Ctx.lend2 (As := [Item.own (.slice (some ⟨b1, 0, none⟩) 0 0) (([] : List (Int × (List Int) × Int × Int × Int)) : (List (Int × (List Int) × Int × Int × Int)))]) [Item.box pb1 [u1, (.int .i64 a1.2.1), (.int .i64 a1.2.2)]] hC5
 refine WL_call Try.call41 rfl rfl (c_S_l1Below pb1 (a1.1, a1.2.1, a1.2.2) u1 (RO.lent g1 hC5.keep hF1) 4 hH1 hn1 x1 hr1) ?_
 rintro _ w2 ⟨rfl, hq1⟩
 have hC6 : Ctx Fs.flatten w0 w2 [Item.box pb1 [u1, (.int .i64 x1.2.2.1), (.int .i64 x1.2.2.2)], Item.own (.slice (some ⟨b1, 0, none⟩) 0 0) (([] : List (Int × (List Int) × Int × Int × Int)) : (List (Int × (List Int) × Int × Int × Int)))] := hb1 _ _ hq1
 refine WL_add rfl rfl rfl ?_
 refine WL_assign rfl rfl ?_
 refine WL_nil ?_
 obtain ⟨r1, hr2, hF⟩ := bind_some hF
 refine W_norm (fun l w => ∃ x6 : Int, ∃ x7 : Int, ∃ v2 : Value, ∃ x8 : (List (Int × (List Int) × Int × Int × Int)), (x6, x7, x8) = r1 ∧ l = [(5, v2)] ∧ Ctx Fs.flatten w0 w [Item.box pb1 [u1, (.int .i64 x6), (.int .i64 x7)], Item.own v2 (x8 : (List (Int × (List Int) × Int × Int × Int)))]) ?_ ?_
 ·refine W_block ?_
  refine W.sub (l' := [(0, (ptr pb1 0)), (1, u2), (5, (.slice (some ⟨b1, 0, none⟩) 0 0)), (6, (.int .i64 (w64 (1 + x1.1))))]) ?_ ⟨rfl, rfl, rfl, rfl, trivial⟩
  refine W_loop (fun k l w => ∃ x2 : Int, ∃ x3 : Int, ∃ v1 : Value, ∃ x4 : (List (Int × (List Int) × Int × Int × Int)), ∃ x5 : Int, l = [(0, (ptr pb1 0)), (1, u2), (5, v1), (6, (.int .i64 x5))] ∧ Ctx Fs.flatten w0 w [Item.box pb1 [u1, (.int .i64 x2), (.int .i64 x3)], Item.own v1 (x4 : (List (Int × (List Int) × Int × Int × Int)))] ∧ S.l5Methods_l1 a1 a2 k x2 x3 x4 x5 = some r1) FUEL ⟨x1.2.2.1, x1.2.2.2, (.slice (some ⟨b1, 0, none⟩) 0 0), ([] : List (Int × (List Int) × Int × Int × Int)), w64 (1 + x1.1), rfl, hC6, hr2⟩ ?_
  clear hr2
  rintro k1 _ w3 ⟨x2, x3, v1, x4, x5, rfl, hC7, hL1⟩
  cases k1 with
  | zero => rw [S.l5Methods_l1] at hL1; cases hL1
  | succ k1 =>
   rw [S.l5Methods_l1] at hL1
   refine W_seq ?_
   refine W_seq_reg ?_
   refine WL_move rfl rfl ?_
   refine WL_gtr rfl rfl rfl ?_
   refine WL_nil ?_
   refine W_cond rfl (fun hc1 => ?_) (fun hc1 => ?_)
   ·replace hL1 := ite_t hL1 hc1
    refine W_skip ?_
    refine nrm_normal ?_
    refine W_seq ?_
    refine W_block ?_
    refine W_seq_reg ?_
    refine WL_move rfl rfl ?_
    refine WL_move rfl rfl ?_
    obtain ⟨x9, hr3, hL1⟩ := bind_some hL1
    obtain ⟨Fs2, hH2, hn2, hF2, hO2, hb2⟩ := Ctx.lend2 (As := [Item.own v1 (x4 : (List (Int × (List Int) × Int × Int × Int)))]) [Item.box pb1 [u1, (.int .i64 x2), (.int .i64 x3)]] hC7
    refine WL_call Try.call57 rfl rfl (c_S_l5Method pb1 (a1.1, x2, x3) u1 (RO.lent g1 hC7.keep hF2) a2 u2 (RO.lent g2 hC7.keep hF2) hH2 hn2 x9 hr3) ?_
    rintro v3 w4 ⟨_, rfl, hq2⟩
    have hC8 : Ctx Fs.flatten w0 w4 [Item.own v3 (x9.1 : (Int × (List Int) × Int × Int × Int)), Item.box pb1 [u1, (.int .i64 x9.2.2.1), (.int .i64 x9.2.2.2)], Item.own v1 (x4 : (List (Int × (List Int) × Int × Int × Int)))] := hb2 _ _ hq2
    obtain ⟨v4, rfl, hC9⟩ := st47_own hC8
    refine WL_allocK hC9 zero47 rfl rfl (fun b2 w5 hC10 hB3 hN1 => ?_)
    refine WL_store_box_aggK (cs' := [(.int .i64 x9.1.1), v4, (.int .i64 x9.1.2.2.1), (.int .i64 x9.1.2.2.2.1), (.int .i64 x9.1.2.2.2.2)]) (new := [(.int .i64 x9.1.1), v4, (.int .i64 x9.1.2.2.1), (.int .i64 x9.1.2.2.2.1), (.int .i64 x9.1.2.2.2.2)]) hC10 0 rfl rfl (by intro v hv; simp only [List.mem_cons, List.not_mem_nil, or_false] at hv; rcases hv with rfl | rfl | rfl | rfl | rfl; exact rfl; exact (ro_one (hC10.ro 1 rfl)); exact rfl; exact rfl; exact rfl) rfl Try.sizeOf47 rfl rfl (fun w6 hC11 hKp1 => ?_)
    try dsimp only [List.set] at hC11
    have hk1 := Keep.over (Keep.of hB3) hN1 hKp1
    refine WL_nil ?_
    refine W_reg ?_
    refine WL_move rfl rfl ?_
    refine WL_load_box_agg [(.int .i64 x9.1.1), v4, (.int .i64 x9.1.2.2.1), (.int .i64 x9.1.2.2.2.1), (.int .i64 x9.1.2.2.2.2)] hC11 0 rfl rfl rfl Try.isAgg47 Try.sizeOf47 rfl rfl ?_
    refine WL_buildSlice (vs := [(.agg #[(.int .i64 x9.1.1), v4, (.int .i64 x9.1.2.2.1), (.int .i64 x9.1.2.2.2.1), (.int .i64 x9.1.2.2.2.2)])]) hC11 Try.underlying29 ty47 rfl rfl rfl rfl (by intro v hv; simp only [List.mem_cons, List.not_mem_nil, or_false] at hv; rcases hv with rfl <;> rfl) rfl rfl (fun b3 w7 hC12 hB4 => ?_)
    have hC13 := hC12.row0 (α := (Int × (List Int) × Int × Int × Int))
    have hC15 := hC13.f3
    have hC14 := own_st47 x9.1.1 v4 x9.1.2.1 x9.1.2.2.1 x9.1.2.2.2.1 x9.1.2.2.2.2 hC15
    have hC16 := hC14.row1
    have hC17 := hC16.front 1 rfl
    dsimp only [List.eraseIdx, List.cons_append, List.nil_append, List.append_nil] at hC17
    have hC18 : Ctx Fs.flatten w0 w7 (Item.own (.slice (some ⟨b3, 0, none⟩) 1 1) ([(x9.1.1, x9.1.2.1, x9.1.2.2.1, x9.1.2.2.2.1, x9.1.2.2.2.2)] : List (Int × (List Int) × Int × Int × Int)) :: [Item.box b2 [(.int .i64 x9.1.1), v4, (.int .i64 x9.1.2.2.1), (.int .i64 x9.1.2.2.2.1), (.int .i64 x9.1.2.2.2.2)], Item.box pb1 [u1, (.int .i64 x9.2.2.1), (.int .i64 x9.2.2.2)], Item.own v1 (x4 : (List (Int × (List Int) × Int × Int × Int)))]) := hC17.rowOwn (by simp [maxLen])
    obtain ⟨x10, hx1, hL1⟩ := bind_some hL1
    refine WL_append_head hC18 2 rfl Try.underlying29 ty47 rfl hx1 rfl rfl rfl (fun v5 w9 hC19 => ?_)
    try dsimp only [List.set] at hC19
    refine WL_assign rfl rfl ?_
    refine WL_nil ?_
    refine blk_normal ?_
    refine nrm_normal ?_
    refine W_reg ?_
    refine WL_move rfl rfl ?_
    refine WL_sub rfl rfl rfl ?_
    refine WL_assign rfl rfl ?_
    refine WL_nil ?_
    have hC21 := hC19.f2
    have hC22 := hC21.f2
    have hC23 := hC22.h2
    refine nrm_sub (l' := [(0, (ptr pb1 0)), (1, u2), (5, v5), (6, (.int .i64 (w64 (x5 - 1))))]) ⟨rfl, rfl, rfl, rfl, trivial⟩ ?_
    exact ⟨k1, Nat.lt_succ_self _, x9.2.2.1, x9.2.2.2, v5, x10, w64 (x5 - 1), rfl, hC23, hL1⟩
   replace hL1 := ite_f hL1 hc1
   refine W_exit ?_
   refine nrm_exit ?_
   refine nrm_exit ?_
   refine blk_exit ?_
   have hq3 := Option.some.inj hL1
   subst hq3
   refine nrm_sub (l' := [(5, v1)]) ⟨rfl, trivial⟩ ?_
   exact ⟨x2, x3, v1, x4, rfl, rfl, hC7⟩
 rintro l2 _ w10 hs2 ⟨x6, x7, v2, x8, rfl, rfl, hC24⟩
 try dsimp only at hF
 refine nrm_sub' hs2 ?_
 clear hs2
 refine W_seq_reg ?_
 refine WL_move rfl rfl ?_
 refine WL_assign rfl rfl ?_
 refine WL_nil ?_
 refine W_ret ?_
 have hq4 := Option.some.inj hF
 subst hq4
 refine fn_ret1 rfl rfl ?_
 have hC25 := hC24.f1
 exact ⟨_, rfl, _, rfl, hC25⟩

end Go.Gx.Px
