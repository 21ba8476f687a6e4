/- The contracts of the Go functions against the pure functions, printed by program. Conditions: each says them. -/
import Derived.Test.YtpkooeejhbjajaaC1
set_option linter.unusedVariables false
set_option linter.unusedSimpArgs false
set_option maxRecDepth 100000
set_option maxHeartbeats 4000000
namespace Go.Gx.Px
open Go.Proofs Go.RowKit

theorem c_S_CompareFacts {w0 : World} (a1 : (Int × (List Int))) (u1 : Value) (g1 : RO [] w0 u1 a1.2) (a2 : (Int × (List Int))) (u2 : Value) (g2 : RO [] w0 u2 a2.2) (rr : Int) (hF : S.CompareFacts a1 a2 = some rr) :
 Calls Try.prog 63 [(.agg #[(.int .i64 a1.1), u1]), (.agg #[(.int .i64 a2.1), u2])].toArray w0 fun e w' => ∃ v, e = .returned v ∧ Res w0 rr v w' := by
 refine calls_of_W Try.func63 rfl rfl ?_
 have hC0 := Ctx.start w0
 unfold S.CompareFacts at hF
 refine W_seq_reg ?_
 refine WL_boxK (cs := [(.int .i64 a1.1), u1]) hC0 rfl rfl rfl (fun b1 w1 hC1 hB1 hN1 => ?_)
 refine WL_boxK (cs := [(.int .i64 a2.1), u2]) hC1 rfl rfl rfl (fun b2 w2 hC2 hB2 hN2 => ?_)
 refine WL_assign rfl rfl ?_
 refine WL_nil ?_
 refine W_seq ?_
 refine W_seq_reg ?_
 refine WL_field Try.underlying91 rfl rfl (fun w => ⟨_, Try.sizeOf3 w⟩) rfl rfl ?_
 refine WL_load_box hC2 1 rfl rfl Try.isAgg3 rfl rfl ?_
 refine WL_field Try.underlying91 rfl rfl (fun w => ⟨_, Try.sizeOf3 w⟩) rfl rfl ?_
 refine WL_load_box hC2 0 rfl rfl Try.isAgg3 rfl rfl ?_
 refine WL_neq rfl rfl rfl ?_
 refine WL_nil ?_
 refine W_cond rfl (fun hc1 => ?_) (fun hc1 => ?_)
 ·replace hF := ite_t hF hc1
  refine W_seq ?_
  refine W_seq_reg ?_
  refine WL_field Try.underlying91 rfl rfl (fun w => ⟨_, Try.sizeOf3 w⟩) rfl rfl ?_
  refine WL_load_box hC2 1 rfl rfl Try.isAgg3 rfl rfl ?_
  refine WL_field Try.underlying91 rfl rfl (fun w => ⟨_, Try.sizeOf3 w⟩) rfl rfl ?_
  refine WL_load_box hC2 0 rfl rfl Try.isAgg3 rfl rfl ?_
  refine WL_lss rfl rfl rfl ?_
  refine WL_nil ?_
  refine W_cond rfl (fun hc2 => ?_) (fun hc2 => ?_)
  ·replace hF := ite_t hF hc2
   refine W_seq_reg ?_
   refine WL_assign rfl rfl ?_
   refine WL_nil ?_
   refine W_ret ?_
   refine nrm_ret ?_
   refine nrm_ret ?_
   have hq1 := Option.some.inj hF
   subst hq1
   refine fn_ret1 rfl rfl ?_
   exact ⟨_, rfl, int_res hC2 _⟩
  replace hF := ite_f hF hc2
  refine W_skip ?_
  refine nrm_normal ?_
  refine W_seq_reg ?_
  refine WL_assign rfl rfl ?_
  refine WL_nil ?_
  refine W_ret ?_
  refine nrm_ret ?_
  have hq2 := Option.some.inj hF
  subst hq2
  refine fn_ret1 rfl rfl ?_
  exact ⟨_, rfl, int_res hC2 _⟩
 replace hF := ite_f hF hc1
 refine W_skip ?_
 refine nrm_normal ?_
 refine W_seq ?_
 refine W_seq_reg ?_
 refine WL_assign rfl rfl ?_
 refine WL_nil ?_
 obtain ⟨r1, hr1, hF⟩ := bind_some hF
 refine W_norm (fun l w => .inl () = r1 ∧ l = [(2, (ptr b1 0)), (3, (ptr b2 0))] ∧ Below w2.heap.size w2 w ∧ Ctx [] w0 w [Item.box b2 [(.int .i64 a2.1), u2], Item.box b1 [(.int .i64 a1.1), u1]]) ?_ ?_
 ·refine W_block ?_
  refine W.sub (l' := [(2, (ptr b1 0)), (3, (ptr b2 0)), (5, (.int .i64 0))]) ?_ ⟨rfl, rfl, rfl, trivial⟩
  refine W_loop (fun k l w => ∃ x1 : Int, l = [(2, (ptr b1 0)), (3, (ptr b2 0)), (5, (.int .i64 x1))] ∧ Below w2.heap.size w2 w ∧ Ctx [] w0 w [Item.box b2 [(.int .i64 a2.1), u2], Item.box b1 [(.int .i64 a1.1), u1]] ∧ S.CompareFacts_l1 a1 a2 k x1 = some r1) FUEL ⟨0, rfl, (Below.refl _ _), hC2, hr1⟩ ?_
  clear hr1
  rintro k1 _ w3 ⟨x1, rfl, hB3, hC3, hL1⟩
  cases k1 with
  | zero => rw [S.CompareFacts_l1] at hL1; cases hL1
  | succ k1 =>
   rw [S.CompareFacts_l1] at hL1
   refine W_seq ?_
   obtain ⟨r2, hr2, hL1⟩ := bind_some hL1
   refine W_cut (fun l w => ∃ x2 : Bool, x2 = r2 ∧ l = [(2, (ptr b1 0)), (3, (ptr b2 0)), (5, (.int .i64 x1)), (27, (.bool x2))] ∧ Below w3.heap.size w3 w ∧ Ctx [] w0 w [Item.box b2 [(.int .i64 a2.1), u2], Item.box b1 [(.int .i64 a1.1), u1]]) ?_ ?_
   ·refine W_reg ?_
    refine WL_move rfl rfl ?_
    refine WL_field Try.underlying91 rfl rfl (fun w => ⟨_, Try.sizeOf26 w⟩) rfl rfl ?_
    refine WL_load_box hC3 1 rfl rfl Try.isAgg26 rfl rfl ?_
    refine WL_len Try.underlying26 g1 rfl rfl ?_
    refine WL_lss rfl rfl rfl ?_
    refine WL_move rfl rfl ?_
    refine WL_fork (fun hc3 => ?_) (fun hc3 => ?_)
    ·replace hr2 := ite_t hr2 hc3
     refine WL_guard rfl rfl ?_
     refine WL_move rfl rfl ?_
     refine WL_guard rfl rfl ?_
     refine WL_field Try.underlying91 rfl rfl (fun w => ⟨_, Try.sizeOf26 w⟩) rfl rfl ?_
     refine WL_guard rfl rfl ?_
     refine WL_load_box hC3 0 rfl rfl Try.isAgg26 rfl rfl ?_
     refine WL_guard rfl rfl ?_
     refine WL_len Try.underlying26 g2 rfl rfl ?_
     refine WL_guard rfl rfl ?_
     refine WL_lss rfl rfl rfl ?_
     refine WL_pick_t rfl rfl rfl ?_
     refine WL_nil ?_
     have hq3 := Option.some.inj hr2
     subst hq3
     refine nrm_sub (l' := [(2, (ptr b1 0)), (3, (ptr b2 0)), (5, (.int .i64 x1)), (27, (.bool (decide (x1 < (List.length a2.2 : Int)))))]) ⟨rfl, rfl, rfl, rfl, trivial⟩ ?_
     exact ⟨(decide (x1 < (List.length a2.2 : Int))), rfl, rfl, (Below.refl _ _), hC3⟩
    replace hr2 := ite_f hr2 hc3
    refine WL_guard_skip rfl rfl (by simp) rfl ?_
    refine WL_guard_skip rfl rfl (by simp) rfl ?_
    refine WL_guard_skip rfl rfl (by simp) rfl ?_
    refine WL_guard_skip rfl rfl (by simp) rfl ?_
    refine WL_guard_skip rfl rfl (by simp) rfl ?_
    refine WL_pick_f rfl rfl rfl ?_
    refine WL_nil ?_
    have hq4 := Option.some.inj hr2
    subst hq4
    refine nrm_sub (l' := [(2, (ptr b1 0)), (3, (ptr b2 0)), (5, (.int .i64 x1)), (27, (.bool false))]) ⟨rfl, rfl, rfl, rfl, trivial⟩ ?_
    exact ⟨false, rfl, rfl, (Below.refl _ _), hC3⟩
   rintro _ w4 ⟨x2, rfl, rfl, hB4, hC4⟩
   try dsimp only at hL1
   refine W_cond rfl (fun hc4 => ?_) (fun hc4 => ?_)
   ·replace hL1 := ite_t hL1 hc4
    refine W_skip ?_
    refine nrm_normal ?_
    refine W_seq ?_
    refine W_block ?_
    refine W_seq ?_
    refine W_seq ?_
    refine W_drawn 11 rfl hmix (fun w5 hB5 => ?_)
    have hC5 := hC4.grow hB5
    refine WA_tk 0 (by kernel_rfl) rfl rfl (fl_field Try.underlying91 rfl rfl (fun w => ⟨_, Try.sizeOf26 w⟩) rfl) ?_
    refine WL_field Try.underlying91 rfl rfl (fun w => ⟨_, Try.sizeOf26 w⟩) rfl rfl ?_
    refine WL_nil ?_
    refine WA_tk 2 (by kernel_rfl) rfl rfl (fl_move rfl) ?_
    refine WL_move rfl rfl ?_
    refine WL_nil ?_
    refine WA_tk 5 (by kernel_rfl) rfl rfl (fl_field Try.underlying91 rfl rfl (fun w => ⟨_, Try.sizeOf26 w⟩) rfl) ?_
    refine WL_field Try.underlying91 rfl rfl (fun w => ⟨_, Try.sizeOf26 w⟩) rfl rfl ?_
    refine WL_nil ?_
    refine WA_tk 7 (by kernel_rfl) rfl rfl (fl_move rfl) ?_
    refine WL_move rfl rfl ?_
    refine WL_nil ?_
    obtain ⟨x3, hx1, hL1⟩ := bind_some hL1
    obtain ⟨x4, hx2, hL1⟩ := bind_some hL1
    refine WA.sub (l' := [(2, (ptr b1 0)), (3, (ptr b2 0)), (5, (.int .i64 x1)), (27, (.bool x2)), (30, (ptr b1 1)), (32, (.int .i64 x1)), (35, (ptr b2 1)), (37, (.int .i64 x1))]) ?_ ⟨rfl, rfl, rfl, rfl, rfl, rfl, rfl, rfl, trivial⟩
    refine WA_postsE [⟨1, [], fun vs => PW.val u1, []⟩, ⟨3, [], fun vs => PW.at [] w0 x3, []⟩, ⟨4, [], fun vs => PW.val (.int .i64 x3), []⟩, ⟨6, [], fun vs => PW.val u2, []⟩, ⟨8, [], fun vs => PW.at [] w0 x4, []⟩, ⟨9, [], fun vs => PW.val (.int .i64 x4), []⟩] [[], [1], [3], [], [6], [8]] 1 rfl (by kernel_rfl) (by kernel_rfl) rfl ?_ ?_
    ·refine StepsE_cons rfl ?_ ?_
     ·intro w6 hB6
      refine DepsE_nil ?_
      refine ⟨_, rfl, ?_⟩
      refine WL_load_box (hC5.grow hB6) 1 rfl rfl Try.isAgg26 rfl rfl ?_
      refine WL_nil ?_
      exact FinE_val (Below.refl _ _) rfl rfl ⟨rfl, rfl⟩
     refine StepsE_cons rfl ?_ ?_
     ·intro w6 hB6
      refine DepsE_cons rfl rfl rfl ?_
      rintro _ _ ⟨rfl, rfl⟩ _
      refine DepsE_nil ?_
      refine ⟨_, rfl, ?_⟩
      refine WL_index Try.underlying26 ty3 g1 hx1 rfl rfl rfl (fun b3 o1 h1 => ?_)
      refine WL_nil ?_
      exact FinE_val (Below.refl _ _) rfl rfl ⟨rfl, _, _, rfl, h1⟩
     refine StepsE_cons rfl ?_ ?_
     ·intro w6 hB6
      refine DepsE_cons rfl rfl rfl ?_
      rintro _ _ ⟨rfl, b3, o1, rfl, h1⟩ _
      refine DepsE_nil ?_
      refine ⟨_, rfl, ?_⟩
      refine WL_load ty3 h1 (hC5.keep.then hB6) rfl rfl (fun v1 h2 => ?_)
      obtain rfl := ro_int h2
      refine WL_nil ?_
      exact FinE_val (Below.refl _ _) rfl rfl ⟨rfl, rfl⟩
     refine StepsE_cons rfl ?_ ?_
     ·intro w6 hB6
      refine DepsE_nil ?_
      refine ⟨_, rfl, ?_⟩
      refine WL_load_box (hC5.grow hB6) 0 rfl rfl Try.isAgg26 rfl rfl ?_
      refine WL_nil ?_
      exact FinE_val (Below.refl _ _) rfl rfl ⟨rfl, rfl⟩
     refine StepsE_cons rfl ?_ ?_
     ·intro w6 hB6
      refine DepsE_cons rfl rfl rfl ?_
      rintro _ _ ⟨rfl, rfl⟩ _
      refine DepsE_nil ?_
      refine ⟨_, rfl, ?_⟩
      refine WL_index Try.underlying26 ty3 g2 hx2 rfl rfl rfl (fun b4 o2 h3 => ?_)
      refine WL_nil ?_
      exact FinE_val (Below.refl _ _) rfl rfl ⟨rfl, _, _, rfl, h3⟩
     refine StepsE_cons rfl ?_ ?_
     ·intro w6 hB6
      refine DepsE_cons rfl rfl rfl ?_
      rintro _ _ ⟨rfl, b4, o2, rfl, h3⟩ _
      refine DepsE_nil ?_
      refine ⟨_, rfl, ?_⟩
      refine WL_load ty3 h3 (hC5.keep.then hB6) rfl rfl (fun v2 h4 => ?_)
      obtain rfl := ro_int h4
      refine WL_nil ?_
      exact FinE_val (Below.refl _ _) rfl rfl ⟨rfl, rfl⟩
     exact StepsE_nil
    intro w7 hB7
    refine AllE_cons rfl rfl rfl ?_
    rintro _ _ ⟨rfl, rfl⟩
    refine AllE_cons rfl rfl rfl ?_
    rintro _ _ ⟨rfl, b3, o1, rfl, h1⟩
    refine AllE_cons rfl rfl rfl ?_
    rintro _ _ ⟨rfl, rfl⟩
    refine AllE_cons rfl rfl rfl ?_
    rintro _ _ ⟨rfl, rfl⟩
    refine AllE_cons rfl rfl rfl ?_
    rintro _ _ ⟨rfl, b4, o2, rfl, h3⟩
    refine AllE_cons rfl rfl rfl ?_
    rintro _ _ ⟨rfl, rfl⟩
    refine AllE_nil ?_
    intro hn1 hb1
    have hC6 := hC5.grow hB7
    refine WA_tk 10 (by kernel_rfl) rfl rfl (fl_lss rfl rfl) ?_
    refine WL_lss rfl rfl rfl ?_
    refine WL_nil ?_
    refine WA_done (by kernel_rfl) ?_
    refine nrm_normal ?_
    refine W_cond rfl (fun hc5 => ?_) (fun hc5 => ?_)
    ·replace hL1 := ite_t hL1 hc5
     refine W_seq_reg ?_
     refine WL_assign rfl rfl ?_
     refine WL_nil ?_
     refine W_ret ?_
     refine nrm_ret ?_
     refine blk_ret ?_
     refine nrm_ret ?_
     refine nrm_ret ?_
     refine blk_ret ?_
     refine nrm_ret ?_
     refine nrm_ret ?_
     have hq5 := Option.some.inj hL1
     subst hq5
     dsimp only at hF
     have hq6 := Option.some.inj hF
     subst hq6
     refine fn_ret1 rfl rfl ?_
     exact ⟨_, rfl, int_res hC6 _⟩
    replace hL1 := ite_f hL1 hc5
    refine W_skip ?_
    refine nrm_normal ?_
    refine W_seq ?_
    refine W_drawn 11 rfl hmix (fun w9 hB8 => ?_)
    have hC7 := hC6.grow hB8
    refine WA_tk 0 (by kernel_rfl) rfl rfl (fl_field Try.underlying91 rfl rfl (fun w => ⟨_, Try.sizeOf26 w⟩) rfl) ?_
    refine WL_field Try.underlying91 rfl rfl (fun w => ⟨_, Try.sizeOf26 w⟩) rfl rfl ?_
    refine WL_nil ?_
    refine WA_tk 2 (by kernel_rfl) rfl rfl (fl_move rfl) ?_
    refine WL_move rfl rfl ?_
    refine WL_nil ?_
    refine WA_tk 5 (by kernel_rfl) rfl rfl (fl_field Try.underlying91 rfl rfl (fun w => ⟨_, Try.sizeOf26 w⟩) rfl) ?_
    refine WL_field Try.underlying91 rfl rfl (fun w => ⟨_, Try.sizeOf26 w⟩) rfl rfl ?_
    refine WL_nil ?_
    refine WA_tk 7 (by kernel_rfl) rfl rfl (fl_move rfl) ?_
    refine WL_move rfl rfl ?_
    refine WL_nil ?_
    obtain ⟨x5, hx3, hL1⟩ := bind_some hL1
    obtain ⟨x6, hx4, hL1⟩ := bind_some hL1
    refine WA.sub (l' := [(2, (ptr b1 0)), (3, (ptr b2 0)), (5, (.int .i64 x1)), (27, (.bool x2)), (30, (ptr b1 1)), (31, u1), (32, (.int .i64 x1)), (33, (ptr b3 o1)), (34, (.int .i64 x3)), (35, (ptr b2 1)), (36, u2), (37, (.int .i64 x1)), (38, (ptr b4 o2)), (39, (.int .i64 x4)), (40, (.bool (decide (x3 < x4)))), (41, (ptr b1 1)), (43, (.int .i64 x1)), (46, (ptr b2 1)), (48, (.int .i64 x1))]) ?_ ⟨rfl, rfl, rfl, rfl, rfl, rfl, rfl, rfl, rfl, rfl, rfl, rfl, rfl, rfl, rfl, rfl, rfl, rfl, rfl, trivial⟩
    refine WA_postsE [⟨1, [], fun vs => PW.val u1, []⟩, ⟨3, [], fun vs => PW.at [] w0 x5, []⟩, ⟨4, [], fun vs => PW.val (.int .i64 x5), []⟩, ⟨6, [], fun vs => PW.val u2, []⟩, ⟨8, [], fun vs => PW.at [] w0 x6, []⟩, ⟨9, [], fun vs => PW.val (.int .i64 x6), []⟩] [[], [1], [3], [], [6], [8]] 1 rfl (by kernel_rfl) (by kernel_rfl) rfl ?_ ?_
    ·refine StepsE_cons rfl ?_ ?_
     ·intro w10 hB9
      refine DepsE_nil ?_
      refine ⟨_, rfl, ?_⟩
      refine WL_load_box (hC7.grow hB9) 1 rfl rfl Try.isAgg26 rfl rfl ?_
      refine WL_nil ?_
      exact FinE_val (Below.refl _ _) rfl rfl ⟨rfl, rfl⟩
     refine StepsE_cons rfl ?_ ?_
     ·intro w10 hB9
      refine DepsE_cons rfl rfl rfl ?_
      rintro _ _ ⟨rfl, rfl⟩ _
      refine DepsE_nil ?_
      refine ⟨_, rfl, ?_⟩
      refine WL_index Try.underlying26 ty3 g1 hx3 rfl rfl rfl (fun b5 o3 h5 => ?_)
      refine WL_nil ?_
      exact FinE_val (Below.refl _ _) rfl rfl ⟨rfl, _, _, rfl, h5⟩
     refine StepsE_cons rfl ?_ ?_
     ·intro w10 hB9
      refine DepsE_cons rfl rfl rfl ?_
      rintro _ _ ⟨rfl, b5, o3, rfl, h5⟩ _
      refine DepsE_nil ?_
      refine ⟨_, rfl, ?_⟩
      refine WL_load ty3 h5 (hC7.keep.then hB9) rfl rfl (fun v3 h6 => ?_)
      obtain rfl := ro_int h6
      refine WL_nil ?_
      exact FinE_val (Below.refl _ _) rfl rfl ⟨rfl, rfl⟩
     refine StepsE_cons rfl ?_ ?_
     ·intro w10 hB9
      refine DepsE_nil ?_
      refine ⟨_, rfl, ?_⟩
      refine WL_load_box (hC7.grow hB9) 0 rfl rfl Try.isAgg26 rfl rfl ?_
      refine WL_nil ?_
      exact FinE_val (Below.refl _ _) rfl rfl ⟨rfl, rfl⟩
     refine StepsE_cons rfl ?_ ?_
     ·intro w10 hB9
      refine DepsE_cons rfl rfl rfl ?_
      rintro _ _ ⟨rfl, rfl⟩ _
      refine DepsE_nil ?_
      refine ⟨_, rfl, ?_⟩
      refine WL_index Try.underlying26 ty3 g2 hx4 rfl rfl rfl (fun b6 o4 h7 => ?_)
      refine WL_nil ?_
      exact FinE_val (Below.refl _ _) rfl rfl ⟨rfl, _, _, rfl, h7⟩
     refine StepsE_cons rfl ?_ ?_
     ·intro w10 hB9
      refine DepsE_cons rfl rfl rfl ?_
      rintro _ _ ⟨rfl, b6, o4, rfl, h7⟩ _
      refine DepsE_nil ?_
      refine ⟨_, rfl, ?_⟩
      refine WL_load ty3 h7 (hC7.keep.then hB9) rfl rfl (fun v4 h8 => ?_)
      obtain rfl := ro_int h8
      refine WL_nil ?_
      exact FinE_val (Below.refl _ _) rfl rfl ⟨rfl, rfl⟩
     exact StepsE_nil
    intro w11 hB10
    refine AllE_cons rfl rfl rfl ?_
    rintro _ _ ⟨rfl, rfl⟩
    refine AllE_cons rfl rfl rfl ?_
    rintro _ _ ⟨rfl, b5, o3, rfl, h5⟩
    refine AllE_cons rfl rfl rfl ?_
    rintro _ _ ⟨rfl, rfl⟩
    refine AllE_cons rfl rfl rfl ?_
    rintro _ _ ⟨rfl, rfl⟩
    refine AllE_cons rfl rfl rfl ?_
    rintro _ _ ⟨rfl, b6, o4, rfl, h7⟩
    refine AllE_cons rfl rfl rfl ?_
    rintro _ _ ⟨rfl, rfl⟩
    refine AllE_nil ?_
    intro hn2 hb2
    have hC8 := hC7.grow hB10
    refine WA_tk 10 (by kernel_rfl) rfl rfl (fl_gtr rfl rfl) ?_
    refine WL_gtr rfl rfl rfl ?_
    refine WL_nil ?_
    refine WA_done (by kernel_rfl) ?_
    refine nrm_normal ?_
    refine W_cond rfl (fun hc6 => ?_) (fun hc6 => ?_)
    ·replace hL1 := ite_t hL1 hc6
     refine W_seq_reg ?_
     refine WL_assign rfl rfl ?_
     refine WL_nil ?_
     refine W_ret ?_
     refine blk_ret ?_
     refine nrm_ret ?_
     refine nrm_ret ?_
     refine blk_ret ?_
     refine nrm_ret ?_
     refine nrm_ret ?_
     have hq7 := Option.some.inj hL1
     subst hq7
     dsimp only at hF
     have hq8 := Option.some.inj hF
     subst hq8
     refine fn_ret1 rfl rfl ?_
     exact ⟨_, rfl, int_res hC8 _⟩
    replace hL1 := ite_f hL1 hc6
    refine W_skip ?_
    refine blk_normal ?_
    refine nrm_normal ?_
    refine W_reg ?_
    refine WL_move rfl rfl ?_
    refine WL_add rfl rfl rfl ?_
    refine WL_assign rfl rfl ?_
    refine WL_nil ?_
    refine nrm_sub (l' := [(2, (ptr b1 0)), (3, (ptr b2 0)), (5, (.int .i64 (w64 (x1 + 1))))]) ⟨rfl, rfl, rfl, trivial⟩ ?_
    exact ⟨k1, Nat.lt_succ_self _, w64 (x1 + 1), rfl, ((((((Keep.of hB3).then hB4).then hB5).then hB7).then hB8).then hB10).below, hC8, hL1⟩
   replace hL1 := ite_f hL1 hc4
   refine W_exit ?_
   refine nrm_exit ?_
   refine nrm_exit ?_
   refine blk_exit ?_
   have hq9 := Option.some.inj hL1
   subst hq9
   refine nrm_sub (l' := [(2, (ptr b1 0)), (3, (ptr b2 0))]) ⟨rfl, rfl, trivial⟩ ?_
   exact ⟨rfl, rfl, ((Keep.of hB3).then hB4).below, hC4⟩
 rintro l3 _ w12 hs3 ⟨rfl, rfl, hB11, hC9⟩
 try dsimp only at hF
 refine nrm_sub' hs3 ?_
 clear hs3
 refine W_seq ?_
 refine W_seq_reg ?_
 refine WL_field Try.underlying91 rfl rfl (fun w => ⟨_, Try.sizeOf26 w⟩) rfl rfl ?_
 refine WL_load_box hC9 1 rfl rfl Try.isAgg26 rfl rfl ?_
 refine WL_len Try.underlying26 g1 rfl rfl ?_
 refine WL_field Try.underlying91 rfl rfl (fun w => ⟨_, Try.sizeOf26 w⟩) rfl rfl ?_
 refine WL_load_box hC9 0 rfl rfl Try.isAgg26 rfl rfl ?_
 refine WL_len Try.underlying26 g2 rfl rfl ?_
 refine WL_lss rfl rfl rfl ?_
 refine WL_nil ?_
 refine W_cond rfl (fun hc7 => ?_) (fun hc7 => ?_)
 ·replace hF := ite_t hF hc7
  refine W_seq_reg ?_
  refine WL_assign rfl rfl ?_
  refine WL_nil ?_
  refine W_ret ?_
  refine nrm_ret ?_
  have hq10 := Option.some.inj hF
  subst hq10
  refine fn_ret1 rfl rfl ?_
  exact ⟨_, rfl, int_res hC9 _⟩
 replace hF := ite_f hF hc7
 refine W_skip ?_
 refine nrm_normal ?_
 refine W_seq ?_
 refine W_seq_reg ?_
 refine WL_field Try.underlying91 rfl rfl (fun w => ⟨_, Try.sizeOf26 w⟩) rfl rfl ?_
 refine WL_load_box hC9 1 rfl rfl Try.isAgg26 rfl rfl ?_
 refine WL_len Try.underlying26 g1 rfl rfl ?_
 refine WL_field Try.underlying91 rfl rfl (fun w => ⟨_, Try.sizeOf26 w⟩) rfl rfl ?_
 refine WL_load_box hC9 0 rfl rfl Try.isAgg26 rfl rfl ?_
 refine WL_len Try.underlying26 g2 rfl rfl ?_
 refine WL_gtr rfl rfl rfl ?_
 refine WL_nil ?_
 refine W_cond rfl (fun hc8 => ?_) (fun hc8 => ?_)
 ·replace hF := ite_t hF hc8
  refine W_seq_reg ?_
  refine WL_assign rfl rfl ?_
  refine WL_nil ?_
  refine W_ret ?_
  refine nrm_ret ?_
  have hq11 := Option.some.inj hF
  subst hq11
  refine fn_ret1 rfl rfl ?_
  exact ⟨_, rfl, int_res hC9 _⟩
 replace hF := ite_f hF hc8
 refine W_skip ?_
 refine nrm_normal ?_
 refine W_seq_reg ?_
 refine WL_assign rfl rfl ?_
 refine WL_nil ?_
 refine W_ret ?_
 have hq12 := Option.some.inj hF
 subst hq12
 refine fn_ret1 rfl rfl ?_
 exact ⟨_, rfl, int_res hC9 _⟩

theorem c_S_HasFact {w0 : World} (a1 : (List (Int × (List Int)))) (u1 : Value) (g1 : RO [] w0 u1 a1) (a2 : (Int × (List Int))) (u2 : Value) (g2 : RO [] w0 u2 a2.2) (rr : Bool) (hF : S.HasFact a1 a2 = some rr) :
 Calls Try.prog 62 [u1, (.agg #[(.int .i64 a2.1), u2])].toArray w0 fun e w' => ∃ v, e = .returned v ∧ Res w0 rr v w' := by
 refine calls_of_W Try.func62 rfl rfl ?_
 have hC0 := Ctx.start w0
 unfold S.HasFact at hF
 refine W_seq_reg ?_
 refine WL_boxK (cs := [(.int .i64 a2.1), u2]) hC0 rfl rfl rfl (fun b1 w1 hC1 hB1 hN1 => ?_)
 refine WL_assign rfl rfl ?_
 refine WL_nil ?_
 refine W_seq ?_
 refine W_seq_reg ?_
 refine WL_assign rfl rfl ?_
 refine WL_nil ?_
 obtain ⟨r1, hr1, hF⟩ := bind_some hF
 refine W_norm (fun l w => .inl () = r1 ∧ l = [] ∧ Below w1.heap.size w1 w ∧ Ctx [] w0 w []) ?_ ?_
 ·refine W_block ?_
  refine W.sub (l' := [(0, u1), (3, (ptr b1 0)), (5, (.int .i64 0))]) ?_ ⟨rfl, rfl, rfl, trivial⟩
  refine W_loop (fun k l w => ∃ x1 : Int, l = [(0, u1), (3, (ptr b1 0)), (5, (.int .i64 x1))] ∧ Below w1.heap.size w1 w ∧ Ctx [] w0 w [Item.box b1 [(.int .i64 a2.1), u2]] ∧ S.HasFact_l1 a1 a2 k x1 = some r1) FUEL ⟨0, rfl, (Below.refl _ _), hC1, hr1⟩ ?_
  clear hr1
  rintro k1 _ w2 ⟨x1, rfl, hB2, hC2, hL1⟩
  cases k1 with
  | zero => rw [S.HasFact_l1] at hL1; cases hL1
  | succ k1 =>
   rw [S.HasFact_l1] at hL1
   refine W_seq ?_
   refine W_seq_reg ?_
   refine WL_move rfl rfl ?_
   refine WL_move rfl rfl ?_
   refine WL_len Try.underlying72 g1 rfl rfl ?_
   refine WL_lss rfl rfl rfl ?_
   refine WL_nil ?_
   refine W_cond rfl (fun hc1 => ?_) (fun hc1 => ?_)
   ·replace hL1 := ite_t hL1 hc1
    refine W_skip ?_
    refine nrm_normal ?_
    refine W_seq ?_
    refine W_block ?_
    refine W_seq ?_
    refine W_drawn 7 rfl hmix (fun w3 hB3 => ?_)
    have hC3 := hC2.grow hB3
    refine WA_tk 0 (by kernel_rfl) rfl rfl (fl_move rfl) ?_
    refine WL_move rfl rfl ?_
    refine WL_nil ?_
    refine WA_tk 1 (by kernel_rfl) rfl rfl (fl_move rfl) ?_
    refine WL_move rfl rfl ?_
    refine WL_nil ?_
    obtain ⟨x2, hx1, hL1⟩ := bind_some hL1
    refine WA_tk 2 (by kernel_rfl) rfl rfl (fl_index Try.underlying72 ty91 g1 hx1 rfl rfl) ?_
    refine WL_index Try.underlying72 ty91 g1 hx1 rfl rfl rfl (fun b2 o1 h1 => ?_)
    refine WL_nil ?_
    refine WA.sub (l' := [(0, u1), (3, (ptr b1 0)), (5, (.int .i64 x1)), (6, (.int .i64 x1)), (7, u1), (8, (.int .i64 (List.length a1 : Int))), (9, (.bool (decide (x1 < (List.length a1 : Int))))), (12, u1), (13, (.int .i64 x1)), (14, (ptr b2 o1))]) ?_ ⟨rfl, rfl, rfl, rfl, rfl, rfl, rfl, rfl, rfl, rfl, trivial⟩
    refine WA_postsE [⟨3, [], fun vs => PW.ro [] w0 x2, []⟩, ⟨4, [], fun vs => PW.val (.agg #[(.int .i64 a2.1), u2]), []⟩] [[], []] 2 rfl (by kernel_rfl) (by kernel_rfl) rfl ?_ ?_
    ·refine StepsE_cons rfl ?_ ?_
     ·intro w4 hB4
      refine DepsE_nil ?_
      refine ⟨_, rfl, ?_⟩
      refine WL_load ty91 h1 (hC3.keep.then hB4) rfl rfl (fun v3 h4 => ?_)
      refine WL_nil ?_
      exact FinE_val (Below.refl _ _) rfl rfl ⟨rfl, h4⟩
     refine StepsE_cons rfl ?_ ?_
     ·intro w4 hB4
      refine DepsE_nil ?_
      refine ⟨_, rfl, ?_⟩
      refine WL_load_box_agg [(.int .i64 a2.1), u2] (hC3.grow hB4) 0 rfl rfl rfl Try.isAgg91 Try.sizeOf91 rfl rfl ?_
      refine WL_nil ?_
      exact FinE_val (Below.refl _ _) rfl rfl ⟨rfl, rfl⟩
     exact StepsE_nil
    intro w5 hB5
    refine AllE_cons rfl rfl rfl ?_
    rintro v3 _ ⟨rfl, h4⟩
    obtain ⟨v2, rfl, h3⟩ := ro_st91 h4
    refine AllE_cons rfl rfl rfl ?_
    rintro _ _ ⟨rfl, rfl⟩
    refine AllE_nil ?_
    intro hn1 hb1
    have hC4 := hC3.grow hB5
    obtain ⟨x3, hr2, hL1⟩ := bind_some hL1
    refine WA_one 5 (by kernel_rfl) rfl ?_
    refine WL_call Try.call63 rfl rfl (c_S_CompareFacts x2 v2 (h3.now hC4.keep) (a2.1, a2.2) u2 (g2.now hC4.keep) x3 hr2) ?_
    intro _ w6 hv1
    obtain ⟨rfl, hB6⟩ := res_int hv1
    have hC5 := hC4.grow hB6
    refine WL_nil ?_
    refine WA_tk 6 (by kernel_rfl) rfl rfl (fl_eql rfl rfl) ?_
    refine WL_eql rfl rfl rfl ?_
    refine WL_nil ?_
    refine WA_done (by kernel_rfl) ?_
    refine nrm_normal ?_
    refine W_cond rfl (fun hc2 => ?_) (fun hc2 => ?_)
    ·replace hL1 := ite_t hL1 hc2
     refine W_seq_reg ?_
     refine WL_assign rfl rfl ?_
     refine WL_nil ?_
     refine W_ret ?_
     refine blk_ret ?_
     refine nrm_ret ?_
     refine nrm_ret ?_
     refine blk_ret ?_
     refine nrm_ret ?_
     refine nrm_ret ?_
     have hq1 := Option.some.inj hL1
     subst hq1
     dsimp only at hF
     have hq2 := Option.some.inj hF
     subst hq2
     refine fn_ret1 rfl rfl ?_
     exact ⟨_, rfl, bool_res hC5 _⟩
    replace hL1 := ite_f hL1 hc2
    refine W_skip ?_
    refine blk_normal ?_
    refine nrm_normal ?_
    refine W_reg ?_
    refine WL_move rfl rfl ?_
    refine WL_add rfl rfl rfl ?_
    refine WL_assign rfl rfl ?_
    refine WL_nil ?_
    refine nrm_sub (l' := [(0, u1), (3, (ptr b1 0)), (5, (.int .i64 (w64 (x1 + 1))))]) ⟨rfl, rfl, rfl, trivial⟩ ?_
    exact ⟨k1, Nat.lt_succ_self _, w64 (x1 + 1), rfl, ((((Keep.of hB2).then hB3).then hB5).then hB6).below, hC5, hL1⟩
   replace hL1 := ite_f hL1 hc1
   refine W_exit ?_
   refine nrm_exit ?_
   refine nrm_exit ?_
   refine blk_exit ?_
   have hq3 := Option.some.inj hL1
   subst hq3
   have hC6 := hC2.h0
   refine nrm_sub (l' := []) trivial ?_
   exact ⟨rfl, rfl, (Keep.of hB2).below, hC6⟩
 rintro l2 _ w7 hs2 ⟨rfl, rfl, hB7, hC7⟩
 try dsimp only at hF
 refine nrm_sub' hs2 ?_
 clear hs2
 refine W_seq_reg ?_
 refine WL_assign rfl rfl ?_
 refine WL_nil ?_
 refine W_ret ?_
 have hq4 := Option.some.inj hF
 subst hq4
 refine fn_ret1 rfl rfl ?_
 exact ⟨_, rfl, bool_res hC7 _⟩

theorem c_S_l2One {w0 : World} (a1 : Int) (a2 : (List Int)) (u1 : Value) (g1 : RO [] w0 u1 a2) (rr : (Int × (List Int))) (hF : S.l2One a1 a2 = some rr) :
 Calls Try.prog 64 [(.int .i64 a1), u1].toArray w0 fun e w' => ∃ v, e = .returned v ∧ Res w0 rr v w' := by
 refine calls_of_W Try.func64 rfl rfl ?_
 have hC0 := Ctx.start w0
 unfold S.l2One at hF
 refine W_seq_reg ?_
 refine WL_allocK hC0 zero91 rfl rfl (fun b1 w1 hC1 hB1 hN1 => ?_)
 refine WL_nil ?_
 refine W_seq_reg ?_
 refine WL_move rfl rfl ?_
 refine WL_buildSlice (vs := []) hC1 Try.underlying26 ty3 rfl rfl rfl rfl (by simp) rfl rfl (fun b2 w2 hC2 hB2 => ?_)
 have hC3 := hC2.row0 (α := Int)
 have hC4 := hC3.front 1 rfl
 dsimp only [List.eraseIdx, List.cons_append, List.nil_append, List.append_nil] at hC4
 have hC5 : Ctx [] w0 w2 (Item.own (.slice (some ⟨b2, 0, none⟩) 0 0) (([] : List Int) : List Int) :: [Item.box b1 [(.int .i64 0), (.slice none 0 0)]]) := hC4.rowOwn (by simp [maxLen])
 refine WL_move rfl rfl ?_
 obtain ⟨x1, hx1, hF⟩ := bind_some hF
 refine WL_append_flat (α := Int) hC5 0 rfl g1 hC5.keep Try.underlying26 ty3 rfl hx1 rfl rfl rfl (fun v1 w3 hC6 => ?_)
 try dsimp only [List.set] at hC6
 refine WL_build (vs := [(0, (.int .i64 a1)), (1, v1)]) rfl rfl rfl (built91_0_1 rfl (ro_cells (hC6.ro 0 rfl))) ?_
 refine WL_store_box_aggK (cs' := [(.int .i64 a1), v1]) (new := [(.int .i64 a1), v1]) hC6 1 rfl rfl (by intro v hv; simp only [List.mem_cons, List.not_mem_nil, or_false] at hv; rcases hv with rfl | rfl; exact rfl; exact (ro_one (hC6.ro 0 rfl))) rfl Try.sizeOf91 rfl rfl (fun w4 hC7 hKp1 => ?_)
 try dsimp only [List.set] at hC7
 refine WL_nil ?_
 refine W_ret ?_
 have hq1 := Option.some.inj hF
 subst hq1
 refine fn_retG1 rfl (rv_cell_agg (cs' := [(.int .i64 a1), v1]) hC7 (i := 1) rfl rfl rfl Try.isAgg91 Try.sizeOf91 rfl) ?_
 have hC8 := own_st91 a1 v1 x1 hC7
 exact ⟨_, rfl, own_res hC8 0 rfl⟩

theorem c_S_AddFact {w0 : World} (a1 : (List (Int × (List Int)))) (u1 : Value) (g1 : RO [] w0 u1 a1) (a2 : (Int × (List Int))) (u2 : Value) (g2 : RO [] w0 u2 a2.2) (rr : (List (Int × (List Int)))) (hF : S.AddFact a1 a2 = some rr) :
 Calls Try.prog 58 [u1, (.agg #[(.int .i64 a2.1), u2])].toArray w0 fun e w' => ∃ v, e = .returned v ∧ Res w0 rr v w' := by
 refine calls_of_W Try.func58 rfl rfl ?_
 have hC0 := Ctx.start w0
 unfold S.AddFact at hF
 refine W_seq_reg ?_
 refine WL_boxK (cs := [(.int .i64 a2.1), u2]) hC0 rfl rfl rfl (fun b1 w1 hC1 hB1 hN1 => ?_)
 refine WL_assign rfl rfl ?_
 refine WL_nil ?_
 refine W_seq_reg ?_
 refine WL_buildSlice (vs := []) hC1 Try.underlying72 ty91 rfl rfl rfl rfl (by simp) rfl rfl (fun b2 w2 hC2 hB2 => ?_)
 have hC3 := hC2.row0 (α := (Int × (List Int)))
 have hC4 := hC3.front 1 rfl
 dsimp only [List.eraseIdx, List.cons_append, List.nil_append, List.append_nil] at hC4
 have hC5 : Ctx [] w0 w2 (Item.own (.slice (some ⟨b2, 0, none⟩) 0 0) (([] : List (Int × (List Int))) : List (Int × (List Int))) :: [Item.box b1 [(.int .i64 a2.1), u2]]) := hC4.rowOwn (by simp [maxLen])
 refine WL_assign rfl rfl ?_
 refine WL_nil ?_
 refine W_seq_reg ?_
 refine WL_move rfl rfl ?_
 refine WL_load_box_agg [(.int .i64 a2.1), u2] hC5 1 rfl rfl rfl Try.isAgg91 Try.sizeOf91 rfl rfl ?_
 obtain ⟨x1, hr1, hF⟩ := bind_some hF
 refine WL_call Try.call62 rfl rfl (c_S_HasFact a1 u1 (g1.now hC5.keep) (a2.1, a2.2) u2 (g2.now hC5.keep) x1 hr1) ?_
 intro _ w3 hv1
 obtain ⟨rfl, hB3⟩ := res_bool hv1
 have hC6 := hC5.grow hB3
 refine WL_assign rfl rfl ?_
 refine WL_nil ?_
 refine W_seq ?_
 refine W_seq_reg ?_
 refine WL_assign rfl rfl ?_
 refine WL_nil ?_
 obtain ⟨r1, hr2, hF⟩ := bind_some hF
 refine W_norm (fun l w => ∃ v2 : Value, ∃ x5 : (List (Int × (List Int))), ∃ x6 : Bool, (x5, x6) = r1 ∧ l = [(3, (ptr b1 0)), (5, v2), (6, (.bool x6))] ∧ Ctx [] w0 w [Item.own v2 (x5 : (List (Int × (List Int)))), Item.box b1 [(.int .i64 a2.1), u2]]) ?_ ?_
 ·refine W_block ?_
  refine W.sub (l' := [(0, u1), (3, (ptr b1 0)), (5, (.slice (some ⟨b2, 0, none⟩) 0 0)), (6, (.bool x1)), (7, (.int .i64 0))]) ?_ ⟨rfl, rfl, rfl, rfl, rfl, trivial⟩
  refine W_loop (fun k l w => ∃ v1 : Value, ∃ x2 : (List (Int × (List Int))), ∃ x3 : Bool, ∃ x4 : Int, l = [(0, u1), (3, (ptr b1 0)), (5, v1), (6, (.bool x3)), (7, (.int .i64 x4))] ∧ Ctx [] w0 w [Item.own v1 (x2 : (List (Int × (List Int)))), Item.box b1 [(.int .i64 a2.1), u2]] ∧ S.AddFact_l1 a1 a2 k x2 x3 x4 = some r1) FUEL ⟨(.slice (some ⟨b2, 0, none⟩) 0 0), ([] : List (Int × (List Int))), x1, 0, rfl, hC6, hr2⟩ ?_
  clear hr2
  rintro k1 _ w4 ⟨v1, x2, x3, x4, rfl, hC7, hL1⟩
  cases k1 with
  | zero => rw [S.AddFact_l1] at hL1; cases hL1
  | succ k1 =>
   rw [S.AddFact_l1] at hL1
   refine W_seq ?_
   refine W_seq_reg ?_
   refine WL_move rfl rfl ?_
   refine WL_move rfl rfl ?_
   refine WL_len Try.underlying72 g1 rfl rfl ?_
   refine WL_lss rfl rfl rfl ?_
   refine WL_nil ?_
   refine W_cond rfl (fun hc1 => ?_) (fun hc1 => ?_)
   ·replace hL1 := ite_t hL1 hc1
    refine W_skip ?_
    refine nrm_normal ?_
    refine W_seq ?_
    refine W_block ?_
    refine W_seq ?_
    obtain ⟨r2, hr3, hL1⟩ := bind_some hL1
    refine W_cut (fun l w => ∃ x7 : Bool, x7 = r2 ∧ l = [(0, u1), (3, (ptr b1 0)), (5, v1), (6, (.bool x3)), (7, (.int .i64 x4)), (28, (.bool x7))] ∧ Below w4.heap.size w4 w ∧ Ctx [] w0 w [Item.own v1 (x2 : (List (Int × (List Int)))), Item.box b1 [(.int .i64 a2.1), u2]]) ?_ ?_
    ·refine W_drawn 11 rfl hmix (fun w6 hB6 => ?_)
     have hC9 := hC7.grow hB6
     refine WA_tk 0 (by kernel_rfl) rfl rfl (fl_move rfl) ?_
     refine WL_move rfl rfl ?_
     refine WL_nil ?_
     refine WA_tk 1 (by kernel_rfl) rfl rfl (fl_not rfl) ?_
     refine WL_not rfl rfl ?_
     refine WL_nil ?_
     refine WA_tk 2 (by kernel_rfl) rfl rfl (fl_move rfl) ?_
     refine WL_move rfl rfl ?_
     refine WL_nil ?_
     refine WA_fork (fun hc2 => ?_) (fun hc2 => ?_)
     ·replace hr3 := ite_t hr3 hc2
      refine WA_takeG 4 rfl (by kernel_rfl) (by kernel_rfl) (by kernel_rfl) rfl rfl rfl (fl_move rfl) ?_
      refine WL_guard rfl rfl ?_
      refine WL_move rfl rfl ?_
      refine WL_nil ?_
      refine WA_takeG 5 rfl (by kernel_rfl) (by kernel_rfl) (by kernel_rfl) rfl rfl rfl (fl_move rfl) ?_
      refine WL_guard rfl rfl ?_
      refine WL_move rfl rfl ?_
      refine WL_nil ?_
      obtain ⟨x8, hx1, hr3⟩ := bind_some hr3
      refine WA_takeG 6 rfl (by kernel_rfl) (by kernel_rfl) (by kernel_rfl) rfl rfl rfl (fl_index Try.underlying72 ty91 g1 hx1 rfl rfl) ?_
      refine WL_guard rfl rfl ?_
      refine WL_index Try.underlying72 ty91 g1 hx1 rfl rfl rfl (fun b3 o1 h1 => ?_)
      refine WL_nil ?_
      refine WA.sub (l' := [(0, u1), (3, (ptr b1 0)), (5, v1), (6, (.bool x3)), (7, (.int .i64 x4)), (12, (.int .i64 x4)), (13, u1), (14, (.int .i64 (List.length a1 : Int))), (15, (.bool (decide (x4 < (List.length a1 : Int))))), (18, (.bool x3)), (19, (.bool (!x3))), (20, (.bool true)), (22, u1), (23, (.int .i64 x4)), (24, (ptr b3 o1))]) ?_ ⟨rfl, rfl, rfl, rfl, rfl, rfl, rfl, rfl, rfl, rfl, rfl, rfl, rfl, rfl, rfl, trivial⟩
      refine WA_postsE [⟨3, [], fun vs => PW.val (.agg #[(.int .i64 a2.1), u2]), []⟩, ⟨7, [], fun vs => PW.ro [] w0 x8, []⟩] [[], []] 3 rfl (by kernel_rfl) (by kernel_rfl) rfl ?_ ?_
      ·refine StepsE_cons rfl ?_ ?_
       ·intro w7 hB7
        refine DepsE_nil ?_
        refine ⟨_, rfl, ?_⟩
        refine WL_guard rfl rfl ?_
        refine WL_load_box_agg [(.int .i64 a2.1), u2] (hC9.grow hB7) 1 rfl rfl rfl Try.isAgg91 Try.sizeOf91 rfl rfl ?_
        refine WL_nil ?_
        exact FinE_val (Below.refl _ _) rfl rfl ⟨rfl, rfl⟩
       refine StepsE_cons rfl ?_ ?_
       ·intro w7 hB7
        refine DepsE_nil ?_
        refine ⟨_, rfl, ?_⟩
        refine WL_guard rfl rfl ?_
        refine WL_load ty91 h1 (hC9.keep.then hB7) rfl rfl (fun v5 h4 => ?_)
        refine WL_nil ?_
        exact FinE_val (Below.refl _ _) rfl rfl ⟨rfl, h4⟩
       exact StepsE_nil
      intro w9 hB8
      refine AllE_cons rfl rfl rfl ?_
      rintro _ _ ⟨rfl, rfl⟩
      refine AllE_cons rfl rfl rfl ?_
      rintro v5 _ ⟨rfl, h4⟩
      obtain ⟨v4, rfl, h3⟩ := ro_st91 h4
      refine AllE_nil ?_
      intro hn1 hb1
      have hC10 := hC9.grow hB8
      obtain ⟨x9, hr4, hr3⟩ := bind_some hr3
      refine WA_one 8 (by kernel_rfl) rfl ?_
      refine WL_guard rfl rfl ?_
      refine WL_call Try.call63 rfl rfl (c_S_CompareFacts (a2.1, a2.2) u2 (g2.now hC10.keep) x8 v4 (h3.now hC10.keep) x9 hr4) ?_
      intro _ w10 hv2
      obtain ⟨rfl, hB9⟩ := res_int hv2
      have hC11 := hC10.grow hB9
      refine WL_nil ?_
      refine WA_takeG 9 rfl (by kernel_rfl) (by kernel_rfl) (by kernel_rfl) rfl rfl rfl (fl_lss rfl rfl) ?_
      refine WL_guard rfl rfl ?_
      refine WL_lss rfl rfl rfl ?_
      refine WL_nil ?_
      refine WA_tk 10 (by kernel_rfl) rfl rfl (fl_pick_t rfl rfl) ?_
      refine WL_pick_t rfl rfl rfl ?_
      refine WL_nil ?_
      refine WA_done (by kernel_rfl) ?_
      have hq1 := Option.some.inj hr3
      subst hq1
      refine nrm_sub (l' := [(0, u1), (3, (ptr b1 0)), (5, v1), (6, (.bool x3)), (7, (.int .i64 x4)), (28, (.bool (decide (x9 < 0))))]) ⟨rfl, rfl, rfl, rfl, rfl, rfl, trivial⟩ ?_
      exact ⟨(decide (x9 < 0)), rfl, rfl, (((Keep.of hB6).then hB8).then hB9).below, hC11⟩
     replace hr3 := ite_f hr3 hc2
     refine WA_sk 3 (by kernel_rfl) rfl rfl rfl rfl (by simp) rfl rfl ?_
     refine WA_sk 4 (by kernel_rfl) rfl rfl rfl rfl (by simp) rfl rfl ?_
     refine WA_sk 5 (by kernel_rfl) rfl rfl rfl rfl (by simp) rfl rfl ?_
     refine WA_sk 6 (by kernel_rfl) rfl rfl rfl rfl (by simp) rfl rfl ?_
     refine WA_sk 7 (by kernel_rfl) rfl rfl rfl rfl (by simp) rfl rfl ?_
     refine WA_sk 8 (by kernel_rfl) rfl rfl rfl rfl (by simp) rfl rfl ?_
     refine WA_sk 9 (by kernel_rfl) rfl rfl rfl rfl (by simp) rfl rfl ?_
     refine WA_tk 10 (by kernel_rfl) rfl rfl (fl_pick_f rfl rfl) ?_
     refine WL_pick_f rfl rfl rfl ?_
     refine WL_nil ?_
     refine WA_done (by kernel_rfl) ?_
     have hq2 := Option.some.inj hr3
     subst hq2
     refine nrm_sub (l' := [(0, u1), (3, (ptr b1 0)), (5, v1), (6, (.bool x3)), (7, (.int .i64 x4)), (28, (.bool false))]) ⟨rfl, rfl, rfl, rfl, rfl, rfl, trivial⟩ ?_
     exact ⟨false, rfl, rfl, (Keep.of hB6).below, hC9⟩
    rintro _ w5 ⟨x7, rfl, rfl, hB5, hC8⟩
    try dsimp only at hL1
    obtain ⟨r3, hr5, hL1⟩ := bind_some hL1
    refine W_norm (fun l w => ∃ v6 : Value, ∃ x10 : (List (Int × (List Int))), ∃ x11 : Bool, (x10, x11) = r3 ∧ l = [(0, u1), (3, (ptr b1 0)), (5, v6), (6, (.bool x11)), (7, (.int .i64 x4))] ∧ Ctx [] w0 w [Item.own v6 (x10 : (List (Int × (List Int)))), Item.box b1 [(.int .i64 a2.1), u2]]) ?_ ?_
    ·refine W_cond rfl (fun hc3 => ?_) (fun hc3 => ?_)
     ·replace hr5 := ite_t hr5 hc3
      refine W_seq_reg ?_
      refine WL_move rfl rfl ?_
      refine WL_field Try.underlying91 rfl rfl (fun w => ⟨_, Try.sizeOf3 w⟩) rfl rfl ?_
      refine WL_load_box hC8 1 rfl rfl Try.isAgg3 rfl rfl ?_
      refine WL_field Try.underlying91 rfl rfl (fun w => ⟨_, Try.sizeOf26 w⟩) rfl rfl ?_
      refine WL_load_box hC8 1 rfl rfl Try.isAgg26 rfl rfl ?_
      obtain ⟨x12, hr6, hr5⟩ := bind_some hr5
      refine WL_call Try.call64 rfl rfl (c_S_l2One a2.1 a2.2 u2 (g2.now hC8.keep) x12 hr6) ?_
      rintro v7 w12 ⟨hB11, F1, hv3, hn2, hb2⟩
      have hC13 := hC8.push hB11 (A := Item.own v7 x12) hv3 hn2 hb2
      obtain ⟨v8, rfl, hC14⟩ := st91_own hC13
      refine WL_buildSlice (vs := [(.agg #[(.int .i64 x12.1), v8])]) hC14 Try.underlying72 ty91 rfl rfl rfl rfl (by intro v hv; simp only [List.mem_cons, List.not_mem_nil, or_false] at hv; rcases hv with rfl <;> rfl) rfl rfl (fun b4 w13 hC15 hB12 => ?_)
      have hC16 := hC15.row0 (α := (Int × (List Int)))
      have hC18 := hC16.f2
      have hC17 := own_st91 x12.1 v8 x12.2 hC18
      have hC19 := hC17.row1
      have hC20 := hC19.front 1 rfl
      dsimp only [List.eraseIdx, List.cons_append, List.nil_append, List.append_nil] at hC20
      have hC21 : Ctx [] w0 w13 (Item.own (.slice (some ⟨b4, 0, none⟩) 1 1) ([(x12.1, x12.2)] : List (Int × (List Int))) :: [Item.own v1 (x2 : (List (Int × (List Int)))), Item.box b1 [(.int .i64 a2.1), u2]]) := hC20.rowOwn (by simp [maxLen])
      obtain ⟨x13, hx2, hr5⟩ := bind_some hr5
      refine WL_append_head hC21 0 rfl Try.underlying72 ty91 rfl hx2 rfl rfl rfl (fun v9 w14 hC22 => ?_)
      try dsimp only [List.set] at hC22
      refine WL_assign rfl rfl ?_
      refine WL_nil ?_
      refine W_reg ?_
      refine WL_assign rfl rfl ?_
      refine WL_nil ?_
      have hq3 := Option.some.inj hr5
      subst hq3
      refine nrm_sub (l' := [(0, u1), (3, (ptr b1 0)), (5, v9), (6, (.bool true)), (7, (.int .i64 x4))]) ⟨rfl, rfl, rfl, rfl, rfl, trivial⟩ ?_
      exact ⟨v9, x13, true, rfl, rfl, hC22⟩
     replace hr5 := ite_f hr5 hc3
     refine W_skip ?_
     have hq4 := Option.some.inj hr5
     subst hq4
     refine nrm_sub (l' := [(0, u1), (3, (ptr b1 0)), (5, v1), (6, (.bool x3)), (7, (.int .i64 x4))]) ⟨rfl, rfl, rfl, rfl, rfl, trivial⟩ ?_
     exact ⟨v1, x2, x3, rfl, rfl, hC8⟩
    rintro l3 _ w11 hs3 ⟨v6, x10, x11, rfl, rfl, hC12⟩
    try dsimp only at hL1
    refine nrm_sub' hs3 ?_
    clear hs3
    refine W_drawn 15 rfl hmix (fun w15 hB13 => ?_)
    have hC24 := hC12.grow hB13
    refine WA_tk 0 (by kernel_rfl) rfl rfl (fl_move rfl) ?_
    refine WL_move rfl rfl ?_
    refine WL_nil ?_
    refine WA_tk 1 (by kernel_rfl) rfl rfl (fl_move rfl) ?_
    refine WL_move rfl rfl ?_
    refine WL_nil ?_
    refine WA_tk 2 (by kernel_rfl) rfl rfl (fl_move rfl) ?_
    refine WL_move rfl rfl ?_
    refine WL_nil ?_
    obtain ⟨x14, hx3, hL1⟩ := bind_some hL1
    refine WA_tk 3 (by kernel_rfl) rfl rfl (fl_index Try.underlying72 ty91 g1 hx3 rfl rfl) ?_
    refine WL_index Try.underlying72 ty91 g1 hx3 rfl rfl rfl (fun b5 o2 h5 => ?_)
    refine WL_nil ?_
    refine WA_tk 4 (by kernel_rfl) rfl rfl (fl_field Try.underlying91 rfl rfl (fun w => ⟨_, Try.sizeOf3 w⟩) rfl) ?_
    refine WL_field Try.underlying91 rfl rfl (fun w => ⟨_, Try.sizeOf3 w⟩) rfl rfl ?_
    refine WL_nil ?_
    refine WA_tk 6 (by kernel_rfl) rfl rfl (fl_move rfl) ?_
    refine WL_move rfl rfl ?_
    refine WL_nil ?_
    refine WA_tk 7 (by kernel_rfl) rfl rfl (fl_move rfl) ?_
    refine WL_move rfl rfl ?_
    refine WL_nil ?_
    obtain ⟨x15, hx4, hL1⟩ := bind_some hL1
    refine WA_tk 8 (by kernel_rfl) rfl rfl (fl_index Try.underlying72 ty91 g1 hx4 rfl rfl) ?_
    refine WL_index Try.underlying72 ty91 g1 hx4 rfl rfl rfl (fun b6 o3 h6 => ?_)
    refine WL_nil ?_
    refine WA_tk 9 (by kernel_rfl) rfl rfl (fl_field Try.underlying91 rfl rfl (fun w => ⟨_, Try.sizeOf26 w⟩) rfl) ?_
    refine WL_field Try.underlying91 rfl rfl (fun w => ⟨_, Try.sizeOf26 w⟩) rfl rfl ?_
    refine WL_nil ?_
    refine WA.sub (l' := [(0, u1), (3, (ptr b1 0)), (5, v6), (6, (.bool x11)), (7, (.int .i64 x4)), (37, v6), (38, u1), (39, (.int .i64 x4)), (40, (ptr b5 o2)), (41, (ptr b5 (o2 + 0))), (43, u1), (44, (.int .i64 x4)), (45, (ptr b6 o3)), (46, (ptr b6 (o3 + 1)))]) ?_ ⟨rfl, rfl, rfl, rfl, rfl, rfl, rfl, rfl, rfl, rfl, rfl, rfl, rfl, rfl, trivial⟩
    refine WA_postsE [⟨5, [], fun vs => PW.val (.int .i64 x14.1), []⟩, ⟨10, [], fun vs => PW.ro [] w0 x15.2, []⟩] [[], []] 4 rfl (by kernel_rfl) (by kernel_rfl) rfl ?_ ?_
    ·refine StepsE_cons rfl ?_ ?_
     ·intro w16 hB14
      refine DepsE_nil ?_
      refine ⟨_, rfl, ?_⟩
      refine WL_load ty3 h5.fst (hC24.keep.then hB14) rfl rfl (fun v10 h7 => ?_)
      obtain rfl := ro_int h7
      refine WL_nil ?_
      exact FinE_val (Below.refl _ _) rfl rfl ⟨rfl, rfl⟩
     refine StepsE_cons rfl ?_ ?_
     ·intro w16 hB14
      refine DepsE_nil ?_
      refine ⟨_, rfl, ?_⟩
      refine WL_load ty26 h6.snd (hC24.keep.then hB14) rfl rfl (fun v11 h8 => ?_)
      refine WL_nil ?_
      exact FinE_val (Below.refl _ _) rfl rfl ⟨rfl, h8⟩
     exact StepsE_nil
    intro w17 hB15
    refine AllE_cons rfl rfl rfl ?_
    rintro _ _ ⟨rfl, rfl⟩
    refine AllE_cons rfl rfl rfl ?_
    rintro v11 _ ⟨rfl, h8⟩
    refine AllE_nil ?_
    intro hn3 hb3
    have hC25 := hC24.grow hB15
    obtain ⟨x16, hr7, hL1⟩ := bind_some hL1
    refine WA_one 11 (by kernel_rfl) rfl ?_
    refine WL_call Try.call64 rfl rfl (c_S_l2One x14.1 x15.2 v11 (h8.now hC25.keep) x16 hr7) ?_
    rintro v12 w18 ⟨hB16, F2, hv4, hn4, hb4⟩
    have hC26 := hC25.push hB16 (A := Item.own v12 x16) hv4 hn4 hb4
    obtain ⟨v13, rfl, hC27⟩ := st91_own hC26
    refine WL_nil ?_
    refine WA_one 12 (by kernel_rfl) rfl ?_
    refine WL_buildSlice (vs := [(.agg #[(.int .i64 x16.1), v13])]) hC27 Try.underlying72 ty91 rfl rfl rfl rfl (by intro v hv; simp only [List.mem_cons, List.not_mem_nil, or_false] at hv; rcases hv with rfl <;> rfl) rfl rfl (fun b7 w19 hC28 hB17 => ?_)
    have hC29 := hC28.row0 (α := (Int × (List Int)))
    have hC31 := hC29.f2
    have hC30 := own_st91 x16.1 v13 x16.2 hC31
    have hC32 := hC30.row1
    have hC33 := hC32.front 1 rfl
    dsimp only [List.eraseIdx, List.cons_append, List.nil_append, List.append_nil] at hC33
    have hC34 : Ctx [] w0 w19 (Item.own (.slice (some ⟨b7, 0, none⟩) 1 1) ([(x16.1, x16.2)] : List (Int × (List Int))) :: [Item.own v6 (x10 : (List (Int × (List Int)))), Item.box b1 [(.int .i64 a2.1), u2]]) := hC33.rowOwn (by simp [maxLen])
    refine WL_nil ?_
    obtain ⟨x17, hx5, hL1⟩ := bind_some hL1
    refine WA_one 13 (by kernel_rfl) rfl ?_
    refine WL_append_head hC34 0 rfl Try.underlying72 ty91 rfl hx5 rfl rfl rfl (fun v14 w20 hC35 => ?_)
    try dsimp only [List.set] at hC35
    refine WL_nil ?_
    refine WA_tk 14 (by kernel_rfl) rfl rfl (fl_assign rfl) ?_
    refine WL_assign rfl rfl ?_
    refine WL_nil ?_
    refine WA_done (by kernel_rfl) ?_
    refine blk_normal ?_
    refine nrm_normal ?_
    refine W_reg ?_
    refine WL_move rfl rfl ?_
    refine WL_add rfl rfl rfl ?_
    refine WL_assign rfl rfl ?_
    refine WL_nil ?_
    refine nrm_sub (l' := [(0, u1), (3, (ptr b1 0)), (5, v14), (6, (.bool x11)), (7, (.int .i64 (w64 (x4 + 1))))]) ⟨rfl, rfl, rfl, rfl, rfl, trivial⟩ ?_
    exact ⟨k1, Nat.lt_succ_self _, v14, x17, x11, w64 (x4 + 1), rfl, hC35, hL1⟩
   replace hL1 := ite_f hL1 hc1
   refine W_exit ?_
   refine nrm_exit ?_
   refine nrm_exit ?_
   refine blk_exit ?_
   have hq5 := Option.some.inj hL1
   subst hq5
   refine nrm_sub (l' := [(3, (ptr b1 0)), (5, v1), (6, (.bool x3))]) ⟨rfl, rfl, rfl, trivial⟩ ?_
   exact ⟨v1, x2, x3, rfl, rfl, hC7⟩
 rintro l4 _ w21 hs4 ⟨v2, x5, x6, rfl, rfl, hC37⟩
 try dsimp only at hF
 refine nrm_sub' hs4 ?_
 clear hs4
 refine W_seq ?_
 refine W_seq_reg ?_
 refine WL_move rfl rfl ?_
 refine WL_not rfl rfl ?_
 refine WL_nil ?_
 obtain ⟨r4, hr8, hF⟩ := bind_some hF
 refine W_norm (fun l w => ∃ v15 : Value, ∃ x18 : (List (Int × (List Int))), x18 = r4 ∧ l = [(5, v15)] ∧ Ctx [] w0 w [Item.own v15 (x18 : (List (Int × (List Int))))]) ?_ ?_
 ·refine W_cond rfl (fun hc4 => ?_) (fun hc4 => ?_)
  ·replace hr8 := ite_t hr8 hc4
   refine W_reg ?_
   refine WL_move rfl rfl ?_
   refine WL_field Try.underlying91 rfl rfl (fun w => ⟨_, Try.sizeOf3 w⟩) rfl rfl ?_
   refine WL_load_box hC37 1 rfl rfl Try.isAgg3 rfl rfl ?_
   refine WL_field Try.underlying91 rfl rfl (fun w => ⟨_, Try.sizeOf26 w⟩) rfl rfl ?_
   refine WL_load_box hC37 1 rfl rfl Try.isAgg26 rfl rfl ?_
   obtain ⟨x19, hr9, hr8⟩ := bind_some hr8
   refine WL_call Try.call64 rfl rfl (c_S_l2One a2.1 a2.2 u2 (g2.now hC37.keep) x19 hr9) ?_
   rintro v16 w23 ⟨hB20, F3, hv5, hn5, hb5⟩
   have hC39 := hC37.push hB20 (A := Item.own v16 x19) hv5 hn5 hb5
   obtain ⟨v17, rfl, hC40⟩ := st91_own hC39
   refine WL_buildSlice (vs := [(.agg #[(.int .i64 x19.1), v17])]) hC40 Try.underlying72 ty91 rfl rfl rfl rfl (by intro v hv; simp only [List.mem_cons, List.not_mem_nil, or_false] at hv; rcases hv with rfl <;> rfl) rfl rfl (fun b8 w24 hC41 hB21 => ?_)
   have hC42 := hC41.row0 (α := (Int × (List Int)))
   have hC44 := hC42.f2
   have hC43 := own_st91 x19.1 v17 x19.2 hC44
   have hC45 := hC43.row1
   have hC46 := hC45.front 1 rfl
   dsimp only [List.eraseIdx, List.cons_append, List.nil_append, List.append_nil] at hC46
   have hC47 : Ctx [] w0 w24 (Item.own (.slice (some ⟨b8, 0, none⟩) 1 1) ([(x19.1, x19.2)] : List (Int × (List Int))) :: [Item.own v2 (x5 : (List (Int × (List Int)))), Item.box b1 [(.int .i64 a2.1), u2]]) := hC46.rowOwn (by simp [maxLen])
   obtain ⟨x20, hx6, hr8⟩ := bind_some hr8
   refine WL_append_head hC47 0 rfl Try.underlying72 ty91 rfl hx6 rfl rfl rfl (fun v18 w25 hC48 => ?_)
   try dsimp only [List.set] at hC48
   refine WL_assign rfl rfl ?_
   refine WL_nil ?_
   have hq6 := Option.some.inj hr8
   subst hq6
   have hC50 := hC48.h1
   refine nrm_sub (l' := [(5, v18)]) ⟨rfl, trivial⟩ ?_
   exact ⟨v18, x20, rfl, rfl, hC50⟩
  replace hr8 := ite_f hr8 hc4
  refine W_skip ?_
  have hq7 := Option.some.inj hr8
  subst hq7
  have hC51 := hC37.h1
  refine nrm_sub (l' := [(5, v2)]) ⟨rfl, trivial⟩ ?_
  exact ⟨v2, x5, rfl, rfl, hC51⟩
 rintro l5 _ w22 hs5 ⟨v15, x18, rfl, rfl, hC38⟩
 try dsimp only at hF
 refine nrm_sub' hs5 ?_
 clear hs5
 refine W_seq_reg ?_
 refine WL_move rfl rfl ?_
 refine WL_assign rfl rfl ?_
 refine WL_nil ?_
 refine W_ret ?_
 have hq8 := Option.some.inj hF
 subst hq8
 refine fn_ret1 rfl rfl ?_
 exact ⟨_, rfl, own_res hC38 0 rfl⟩

theorem c_S_l2Fact {w0 : World} {Fs : List (List Nat)} (pb1 : Nat) (a1 : ((List UInt8) × Int × Int)) (u1 : Value) (g1 : RO Fs.flatten w0 u1 a1.1) (a2 : (List Int)) (u2 : Value) (g2 : RO Fs.flatten w0 u2 a2) (a3 : Int) (hH : Hold [Item.box pb1 [u1, (.int .i64 a1.2.1), (.int .i64 a1.2.2)]] w0 Fs) (hn : Fs.flatten.Nodup) (rr : ((Int × (List Int)) × ((List UInt8) × Int × Int))) (hF : S.l2Fact a1 a2 a3 = some rr) :
 Calls Try.prog 59 [(ptr pb1 0), u2, (.int .i64 a3)].toArray w0 fun e w' => ∃ v, e = .returned v ∧ ∃ q0 : Value, v = q0 ∧ Ctx Fs.flatten w0 w' [Item.own q0 (rr.1 : (Int × (List Int))), Item.box pb1 [u1, (.int .i64 rr.2.2.1), (.int .i64 rr.2.2.2)]] := by
 refine calls_of_W Try.func59 rfl rfl ?_
 have hC0 := Ctx.startIn hH hn
 unfold S.l2Fact at hF
 refine W_seq_reg ?_
 refine WL_allocK hC0 zero91 rfl rfl (fun b1 w1 hC1 hB1 hN1 => ?_)
 refine WL_nil ?_
 refine W_seq_reg ?_
 refine WL_move rfl rfl ?_
 refine WL_move rfl rfl ?_
 refine WL_len Try.underlying26 g2 rfl rfl ?_
 obtain ⟨x1, hr1, hF⟩ := bind_some hF
 have hC2 := hC1.f1
 obtain ⟨Fs1, hH1, hn1, hF1, hO1, hb1⟩ := Ctx.lend2 (As := [Item.box b1 [(.int .i64 0), (.slice none 0 0)]]) [Item.box pb1 [u1, (.int .i64 a1.2.1), (.int .i64 a1.2.2)]] hC2
 refine WL_call Try.call41 rfl rfl (c_S_l1Below pb1 (a1.1, a1.2.1, a1.2.2) u1 (RO.lent g1 hC2.keep hF1) (List.length a2 : Int) hH1 hn1 x1 hr1) ?_
 rintro _ w2 ⟨rfl, hq1⟩
 have hC3 : Ctx Fs.flatten w0 w2 [Item.box pb1 [u1, (.int .i64 x1.2.2.1), (.int .i64 x1.2.2.2)], Item.box b1 [(.int .i64 0), (.slice none 0 0)]] := hb1 _ _ hq1
 refine WL_build (vs := [(0, (.int .i64 x1.1))]) rfl rfl rfl (built91_0 rfl) ?_
 refine WL_allocK hC3 zero91 rfl rfl (fun b2 w3 hC4 hB2 hN2 => ?_)
 refine WL_store_box_aggK (cs' := [(.int .i64 x1.1), (.slice none 0 0)]) (new := [(.int .i64 x1.1), (.slice none 0 0)]) hC4 0 rfl rfl (by intro v hv; simp only [List.mem_cons, List.not_mem_nil, or_false] at hv; rcases hv with rfl | rfl; exact rfl; exact rfl) rfl Try.sizeOf91 rfl rfl (fun w4 hC5 hKp1 => ?_)
 try dsimp only [List.set] at hC5
 have hk1 := Keep.over (Keep.of hB2) hN2 hKp1
 refine WL_nil ?_
 refine W_seq ?_
 refine W_seq_reg ?_
 refine WL_assign rfl rfl ?_
 refine WL_nil ?_
 obtain ⟨r1, hr2, hF⟩ := bind_some hF
 refine W_norm (fun l w => ∃ x7 : Int, ∃ v2 : Value, ∃ x8 : (List Int), ∃ x9 : Int, ∃ x10 : Int, (x7, x8, x9, x10) = r1 ∧ l = [(6, (ptr b1 0)), (7, (ptr b2 0))] ∧ Ctx Fs.flatten w0 w [Item.own v2 (x8 : (List Int)), Item.box b2 [(.int .i64 x7), v2], Item.box pb1 [u1, (.int .i64 x9), (.int .i64 x10)], Item.box b1 [(.int .i64 0), (.slice none 0 0)]]) ?_ ?_
 ·refine W_block ?_
  have hC22 := hC5.triv (nil_val (α := Int))
  refine W.sub (l' := [(0, (ptr pb1 0)), (1, u2), (2, (.int .i64 a3)), (6, (ptr b1 0)), (7, (ptr b2 0)), (8, (.int .i64 0))]) ?_ ⟨rfl, rfl, rfl, rfl, rfl, rfl, trivial⟩
  refine W_loop (fun k l w => ∃ x2 : Int, ∃ v1 : Value, ∃ x3 : (List Int), ∃ x4 : Int, ∃ x5 : Int, ∃ x6 : Int, l = [(0, (ptr pb1 0)), (1, u2), (2, (.int .i64 a3)), (6, (ptr b1 0)), (7, (ptr b2 0)), (8, (.int .i64 x6))] ∧ Ctx Fs.flatten w0 w [Item.own v1 (x3 : (List Int)), Item.box b2 [(.int .i64 x2), v1], Item.box pb1 [u1, (.int .i64 x4), (.int .i64 x5)], Item.box b1 [(.int .i64 0), (.slice none 0 0)]] ∧ S.l2Fact_l1 a2 a1 a3 k x2 x3 x4 x5 x6 = some r1) FUEL ⟨x1.1, (.slice none 0 0), [], x1.2.2.1, x1.2.2.2, 0, rfl, hC22, hr2⟩ ?_
  clear hr2
  rintro k1 _ w5 ⟨x2, v1, x3, x4, x5, x6, rfl, hC6, hL1⟩
  cases k1 with
  | zero => rw [S.l2Fact_l1] at hL1; cases hL1
  | succ k1 =>
   rw [S.l2Fact_l1] at hL1
   refine W_seq ?_
   refine W_seq_reg ?_
   refine WL_move rfl rfl ?_
   refine WL_move rfl rfl ?_
   refine WL_field Try.underlying91 rfl rfl (fun w => ⟨_, Try.sizeOf3 w⟩) rfl rfl ?_
   refine WL_load_box hC6 1 rfl rfl Try.isAgg3 rfl rfl ?_
   obtain ⟨x11, hx1, hL1⟩ := bind_some hL1
   refine WL_index Try.underlying26 ty3 g2 hx1 rfl rfl rfl (fun b3 o1 h1 => ?_)
   refine WL_load ty3 h1 hC6.keep rfl rfl (fun v3 h2 => ?_)
   obtain rfl := ro_int h2
   refine WL_lss rfl rfl rfl ?_
   refine WL_nil ?_
   refine W_cond rfl (fun hc1 => ?_) (fun hc1 => ?_)
   ·replace hL1 := ite_t hL1 hc1
    refine W_skip ?_
    refine nrm_normal ?_
    refine W_seq ?_
    refine W_block ?_
    refine W_seq_reg ?_
    refine WL_move rfl rfl ?_
    refine WL_move rfl rfl ?_
    obtain ⟨x12, hr3, hL1⟩ := bind_some hL1
    have hC7 := hC6.f2
    obtain ⟨Fs2, hH2, hn2, hF2, hO2, hb2⟩ := Ctx.lend2 (As := [Item.own v1 (x3 : (List Int)), Item.box b2 [(.int .i64 x2), v1], Item.box b1 [(.int .i64 0), (.slice none 0 0)]]) [Item.box pb1 [u1, (.int .i64 x4), (.int .i64 x5)]] hC7
    refine WL_call Try.call41 rfl rfl (c_S_l1Below pb1 (a1.1, x4, x5) u1 (RO.lent g1 hC7.keep hF2) a3 hH2 hn2 x12 hr3) ?_
    rintro _ w6 ⟨rfl, hq2⟩
    have hC8 : Ctx Fs.flatten w0 w6 [Item.box pb1 [u1, (.int .i64 x12.2.2.1), (.int .i64 x12.2.2.2)], Item.own v1 (x3 : (List Int)), Item.box b2 [(.int .i64 x2), v1], Item.box b1 [(.int .i64 0), (.slice none 0 0)]] := hb2 _ _ hq2
    refine WL_assign rfl rfl ?_
    refine WL_nil ?_
    refine W_reg ?_
    refine WL_field Try.underlying91 rfl rfl (fun w => ⟨_, Try.sizeOf26 w⟩) rfl rfl ?_
    refine WL_load_box hC8 2 rfl rfl Try.isAgg26 rfl rfl ?_
    refine WL_move rfl rfl ?_
    refine WL_buildSlice (vs := [(.int .i64 x12.1)]) hC8 Try.underlying26 ty3 rfl rfl rfl rfl (by intro v hv; simp only [List.mem_cons, List.not_mem_nil, or_false] at hv; rcases hv with rfl <;> rfl) rfl rfl (fun b4 w7 hC9 hB4 => ?_)
    have hC10 := hC9.row0 (α := Int)
    have hC11 := hC10.triv (int_val (x12.1))
    have hC12 := hC11.row1
    have hC13 := hC12.front 1 rfl
    dsimp only [List.eraseIdx, List.cons_append, List.nil_append, List.append_nil] at hC13
    have hC14 : Ctx Fs.flatten w0 w7 (Item.own (.slice (some ⟨b4, 0, none⟩) 1 1) ([x12.1] : List Int) :: [Item.box pb1 [u1, (.int .i64 x12.2.2.1), (.int .i64 x12.2.2.2)], Item.own v1 (x3 : (List Int)), Item.box b2 [(.int .i64 x2), v1], Item.box b1 [(.int .i64 0), (.slice none 0 0)]]) := hC13.rowOwn (by simp [maxLen])
    obtain ⟨x13, hx2, hL1⟩ := bind_some hL1
    refine WL_append_flat (α := Int) hC14 2 rfl (hC14.ro 0 rfl) (Keep.refl _ _) Try.underlying26 ty3 rfl hx2 rfl rfl rfl (fun v4 w9 hC15 => ?_)
    try dsimp only [List.set] at hC15
    refine WL_field Try.underlying91 rfl rfl (fun w => ⟨_, Try.sizeOf26 w⟩) rfl rfl ?_
    refine WL_store_boxK (cs' := [(.int .i64 x2), v4]) hC15 3 rfl rfl (ro_one (hC15.ro 2 rfl)) rfl Try.sizeOf26 rfl rfl (fun w10 hC16 hKp2 => ?_)
    try dsimp only [List.set] at hC16
    refine WL_nil ?_
    refine blk_normal ?_
    refine nrm_normal ?_
    refine W_reg ?_
    refine WL_move rfl rfl ?_
    refine WL_add rfl rfl rfl ?_
    refine WL_assign rfl rfl ?_
    refine WL_nil ?_
    have hC17 := hC16.f4
    have hC18 := hC17.f2
    have hC19 := hC18.f4
    have hC20 := hC19.f4
    have hC21 := hC20.h4
    refine nrm_sub (l' := [(0, (ptr pb1 0)), (1, u2), (2, (.int .i64 a3)), (6, (ptr b1 0)), (7, (ptr b2 0)), (8, (.int .i64 (w64 (x6 + 1))))]) ⟨rfl, rfl, rfl, rfl, rfl, rfl, trivial⟩ ?_
    exact ⟨k1, Nat.lt_succ_self _, x2, v4, x13, x12.2.2.1, x12.2.2.2, w64 (x6 + 1), rfl, hC21, hL1⟩
   replace hL1 := ite_f hL1 hc1
   refine W_exit ?_
   refine nrm_exit ?_
   refine nrm_exit ?_
   refine blk_exit ?_
   have hq3 := Option.some.inj hL1
   subst hq3
   refine nrm_sub (l' := [(6, (ptr b1 0)), (7, (ptr b2 0))]) ⟨rfl, rfl, trivial⟩ ?_
   exact ⟨x2, v1, x3, x4, x5, rfl, rfl, hC6⟩
 rintro l2 _ w11 hs2 ⟨x7, v2, x8, x9, x10, rfl, rfl, hC23⟩
 try dsimp only at hF
 refine nrm_sub' hs2 ?_
 clear hs2
 refine W_seq_reg ?_
 refine WL_load_box_agg [(.int .i64 x7), v2] hC23 1 rfl rfl rfl Try.isAgg91 Try.sizeOf91 rfl rfl ?_
 refine WL_store_box_aggK (cs' := [(.int .i64 x7), v2]) (new := [(.int .i64 x7), v2]) hC23 3 rfl rfl (by intro v hv; simp only [List.mem_cons, List.not_mem_nil, or_false] at hv; rcases hv with rfl | rfl; exact rfl; exact (ro_one (hC23.ro 0 rfl))) rfl Try.sizeOf91 rfl rfl (fun w12 hC24 hKp3 => ?_)
 try dsimp only [List.set] at hC24
 refine WL_nil ?_
 refine W_ret ?_
 have hq4 := Option.some.inj hF
 subst hq4
 refine fn_retG1 rfl (rv_cell_agg (cs' := [(.int .i64 x7), v2]) hC24 (i := 3) rfl rfl rfl Try.isAgg91 Try.sizeOf91 rfl) ?_
 have hC25 := hC24.f2
 have hC27 := hC25.f1
 have hC26 := own_st91 x7 v2 x8 hC27
 have hC28 := hC26.h2
 exact ⟨_, rfl, _, rfl, hC28⟩

theorem c_S_l2Facts {w0 : World} {Fs : List (List Nat)} (pb1 : Nat) (a1 : ((List UInt8) × Int × Int)) (u1 : Value) (g1 : RO Fs.flatten w0 u1 a1.1) (a2 : (List Int)) (u2 : Value) (g2 : RO Fs.flatten w0 u2 a2) (a3 : Int) (hH : Hold [Item.box pb1 [u1, (.int .i64 a1.2.1), (.int .i64 a1.2.2)]] w0 Fs) (hn : Fs.flatten.Nodup) (rr : ((List (Int × (List Int))) × ((List UInt8) × Int × Int))) (hF : S.l2Facts a1 a2 a3 = some rr) :
 Calls Try.prog 49 [(ptr pb1 0), u2, (.int .i64 a3)].toArray w0 fun e w' => ∃ v, e = .returned v ∧ ∃ q0 : Value, v = q0 ∧ Ctx Fs.flatten w0 w' [Item.own q0 (rr.1 : (List (Int × (List Int)))), Item.box pb1 [u1, (.int .i64 rr.2.2.1), (.int .i64 rr.2.2.2)]] := by
 refine calls_of_W Try.func49 rfl rfl ?_
 have hC0 := Ctx.startIn hH hn
 unfold S.l2Facts at hF
 refine W_seq_reg ?_
 refine WL_assign rfl rfl ?_
 refine WL_nil ?_
 refine W_seq_reg ?_
 refine WL_buildSlice (vs := []) hC0 Try.underlying72 ty91 rfl rfl rfl rfl (by simp) rfl rfl (fun b1 w1 hC1 hB1 => ?_)
 have hC2 := hC1.row0 (α := (Int × (List Int)))
 have hC3 := hC2.front 1 rfl
 dsimp only [List.eraseIdx, List.cons_append, List.nil_append, List.append_nil] at hC3
 have hC4 : Ctx Fs.flatten w0 w1 (Item.own (.slice (some ⟨b1, 0, none⟩) 0 0) (([] : List (Int × (List Int))) : List (Int × (List Int))) :: [Item.box pb1 [u1, (.int .i64 a1.2.1), (.int .i64 a1.2.2)]]) := hC3.rowOwn (by simp [maxLen])
 refine WL_assign rfl rfl ?_
 refine WL_nil ?_
 refine W_seq ?_
 refine W_seq_reg ?_
 refine WL_move rfl rfl ?_
 refine WL_move rfl rfl ?_
 refine WL_add rfl rfl rfl ?_
 obtain ⟨x1, hr1, hF⟩ := bind_some hF
 have hC5 := hC4.f1
 obtain ⟨Fs1, hH1, hn1, hF1, hO1, hb1⟩ := Ctx.lend2 (As := [Item.own (.slice (some ⟨b1, 0, none⟩) 0 0) (([] : List (Int × (List Int))) : (List (Int × (List Int))))]) [Item.box pb1 [u1, (.int .i64 a1.2.1), (.int .i64 a1.2.2)]] hC5
 refine WL_call Try.call41 rfl rfl (c_S_l1Below pb1 (a1.1, a1.2.1, a1.2.2) u1 (RO.lent g1 hC5.keep hF1) (w64 (a3 + 1)) hH1 hn1 x1 hr1) ?_
 rintro _ w2 ⟨rfl, hq1⟩
 have hC6 : Ctx Fs.flatten w0 w2 [Item.box pb1 [u1, (.int .i64 x1.2.2.1), (.int .i64 x1.2.2.2)], Item.own (.slice (some ⟨b1, 0, none⟩) 0 0) (([] : List (Int × (List Int))) : (List (Int × (List Int))))] := hb1 _ _ hq1
 refine WL_assign rfl rfl ?_
 refine WL_nil ?_
 obtain ⟨r1, hr2, hF⟩ := bind_some hF
 refine W_norm (fun l w => ∃ x6 : Int, ∃ x7 : Int, ∃ v2 : Value, ∃ x8 : (List (Int × (List Int))), (x6, x7, x8) = r1 ∧ l = [(7, v2)] ∧ Ctx Fs.flatten w0 w [Item.box pb1 [u1, (.int .i64 x6), (.int .i64 x7)], Item.own v2 (x8 : (List (Int × (List Int))))]) ?_ ?_
 ·refine W_block ?_
  refine W.sub (l' := [(0, (ptr pb1 0)), (1, u2), (7, (.slice (some ⟨b1, 0, none⟩) 0 0)), (8, (.int .i64 x1.1))]) ?_ ⟨rfl, rfl, rfl, rfl, trivial⟩
  refine W_loop (fun k l w => ∃ x2 : Int, ∃ x3 : Int, ∃ v1 : Value, ∃ x4 : (List (Int × (List Int))), ∃ x5 : Int, l = [(0, (ptr pb1 0)), (1, u2), (7, v1), (8, (.int .i64 x5))] ∧ Ctx Fs.flatten w0 w [Item.box pb1 [u1, (.int .i64 x2), (.int .i64 x3)], Item.own v1 (x4 : (List (Int × (List Int))))] ∧ S.l2Facts_l1 a1 a2 k x2 x3 x4 x5 = some r1) FUEL ⟨x1.2.2.1, x1.2.2.2, (.slice (some ⟨b1, 0, none⟩) 0 0), ([] : List (Int × (List Int))), x1.1, rfl, hC6, hr2⟩ ?_
  clear hr2
  rintro k1 _ w3 ⟨x2, x3, v1, x4, x5, rfl, hC7, hL1⟩
  cases k1 with
  | zero => rw [S.l2Facts_l1] at hL1; cases hL1
  | succ k1 =>
   rw [S.l2Facts_l1] at hL1
   refine W_seq ?_
   refine W_seq_reg ?_
   refine WL_move rfl rfl ?_
   refine WL_gtr rfl rfl rfl ?_
   refine WL_nil ?_
   refine W_cond rfl (fun hc1 => ?_) (fun hc1 => ?_)
   ·replace hL1 := ite_t hL1 hc1
    refine W_skip ?_
    refine nrm_normal ?_
    refine W_seq ?_
    refine W_block ?_
    refine W_reg ?_
    refine WL_move rfl rfl ?_
    refine WL_move rfl rfl ?_
    refine WL_move rfl rfl ?_
    obtain ⟨x9, hr3, hL1⟩ := bind_some hL1
    obtain ⟨Fs2, hH2, hn2, hF2, hO2, hb2⟩ := Ctx.lend2 (As := [Item.own v1 (x4 : (List (Int × (List Int))))]) [Item.box pb1 [u1, (.int .i64 x2), (.int .i64 x3)]] hC7
    refine WL_call Try.call59 rfl rfl (c_S_l2Fact pb1 (a1.1, x2, x3) u1 (RO.lent g1 hC7.keep hF2) a2 u2 (RO.lent g2 hC7.keep hF2) 4 hH2 hn2 x9 hr3) ?_
    rintro v3 w4 ⟨_, rfl, hq2⟩
    have hC8 : Ctx Fs.flatten w0 w4 [Item.own v3 (x9.1 : (Int × (List Int))), Item.box pb1 [u1, (.int .i64 x9.2.2.1), (.int .i64 x9.2.2.2)], Item.own v1 (x4 : (List (Int × (List Int))))] := hb2 _ _ hq2
    obtain ⟨v4, rfl, hC9⟩ := st91_own hC8
    obtain ⟨x10, hr4, hL1⟩ := bind_some hL1
    refine WL_call Try.call58 rfl rfl (c_S_AddFact x4 v1 ((hC9.ro 2 rfl).now (Keep.refl _ _)) x9.1 v4 ((hC9.ro 0 rfl).now (Keep.refl _ _)) x10 hr4) ?_
    rintro v5 w5 ⟨hB3, F1, hv1, hn3, hb3⟩
    have hC10 := hC9.push hB3 (A := Item.own v5 x10) hv1 hn3 hb3
    refine WL_assign rfl rfl ?_
    refine WL_nil ?_
    refine blk_normal ?_
    refine nrm_normal ?_
    refine W_reg ?_
    refine WL_move rfl rfl ?_
    refine WL_sub rfl rfl rfl ?_
    refine WL_assign rfl rfl ?_
    refine WL_nil ?_
    have hC11 := hC10.f2
    have hC12 := hC11.h2
    refine nrm_sub (l' := [(0, (ptr pb1 0)), (1, u2), (7, v5), (8, (.int .i64 (w64 (x5 - 1))))]) ⟨rfl, rfl, rfl, rfl, trivial⟩ ?_
    exact ⟨k1, Nat.lt_succ_self _, x9.2.2.1, x9.2.2.2, v5, x10, w64 (x5 - 1), rfl, hC12, hL1⟩
   replace hL1 := ite_f hL1 hc1
   refine W_exit ?_
   refine nrm_exit ?_
   refine nrm_exit ?_
   refine blk_exit ?_
   have hq3 := Option.some.inj hL1
   subst hq3
   refine nrm_sub (l' := [(7, v1)]) ⟨rfl, trivial⟩ ?_
   exact ⟨x2, x3, v1, x4, rfl, rfl, hC7⟩
 rintro l2 _ w6 hs2 ⟨x6, x7, v2, x8, rfl, rfl, hC13⟩
 try dsimp only at hF
 refine nrm_sub' hs2 ?_
 clear hs2
 refine W_seq_reg ?_
 refine WL_move rfl rfl ?_
 refine WL_assign rfl rfl ?_
 refine WL_nil ?_
 refine W_ret ?_
 have hq4 := Option.some.inj hF
 subst hq4
 refine fn_ret1 rfl rfl ?_
 have hC14 := hC13.f1
 exact ⟨_, rfl, _, rfl, hC14⟩

theorem c_S_IsSchema {w0 : World} (a1 : (List Int)) (u1 : Value) (g1 : RO [] w0 u1 a1) (rr : Bool) (hF : S.IsSchema a1 = some rr) :
 Calls Try.prog 60 [u1].toArray w0 fun e w' => ∃ v, e = .returned v ∧ Res w0 rr v w' := by
 refine calls_of_W Try.func60 rfl rfl ?_
 have hC0 := Ctx.start w0
 unfold S.IsSchema at hF
 refine W_seq_reg ?_
 refine WL_assign rfl rfl ?_
 refine WL_nil ?_
 refine W_seq ?_
 refine W_seq_reg ?_
 refine WL_assign rfl rfl ?_
 refine WL_nil ?_
 obtain ⟨r1, hr1, hF⟩ := bind_some hF
 refine W_norm (fun l w => .inl () = r1 ∧ l = [(0, u1)] ∧ Below w0.heap.size w0 w ∧ Ctx [] w0 w []) ?_ ?_
 ·refine W_block ?_
  refine W.sub (l' := [(0, u1), (3, (.int .i64 0))]) ?_ ⟨rfl, rfl, trivial⟩
  refine W_loop (fun k l w => ∃ x1 : Int, l = [(0, u1), (3, (.int .i64 x1))] ∧ Below w0.heap.size w0 w ∧ Ctx [] w0 w [] ∧ S.IsSchema_l1 a1 k x1 = some r1) FUEL ⟨0, rfl, (Below.refl _ _), hC0, hr1⟩ ?_
  clear hr1
  rintro k1 _ w1 ⟨x1, rfl, hB1, hC1, hL1⟩
  cases k1 with
  | zero => rw [S.IsSchema_l1] at hL1; cases hL1
  | succ k1 =>
   rw [S.IsSchema_l1] at hL1
   refine W_seq ?_
   refine W_seq_reg ?_
   refine WL_move rfl rfl ?_
   refine WL_move rfl rfl ?_
   refine WL_len Try.underlying26 g1 rfl rfl ?_
   refine WL_lss rfl rfl rfl ?_
   refine WL_nil ?_
   refine W_cond rfl (fun hc1 => ?_) (fun hc1 => ?_)
   ·replace hL1 := ite_t hL1 hc1
    refine W_skip ?_
    refine nrm_normal ?_
    refine W_seq ?_
    refine W_block ?_
    refine W_seq_reg ?_
    refine WL_move rfl rfl ?_
    refine WL_move rfl rfl ?_
    obtain ⟨x2, hx1, hL1⟩ := bind_some hL1
    refine WL_index Try.underlying26 ty3 g1 hx1 rfl rfl rfl (fun b1 o1 h1 => ?_)
    refine WL_load ty3 h1 hC1.keep rfl rfl (fun v1 h2 => ?_)
    obtain rfl := ro_int h2
    obtain ⟨x3, hr2, hL1⟩ := bind_some hL1
    refine WL_call Try.call24 rfl rfl (c_S_l1In x2 1 3 x3 hr2) ?_
    intro _ w2 hv1
    obtain ⟨rfl, hB2⟩ := res_bool hv1
    have hC2 := hC1.grow hB2
    refine WL_not rfl rfl ?_
    refine WL_nil ?_
    refine W_cond rfl (fun hc2 => ?_) (fun hc2 => ?_)
    ·replace hL1 := ite_t hL1 hc2
     refine W_seq_reg ?_
     refine WL_assign rfl rfl ?_
     refine WL_nil ?_
     refine W_ret ?_
     refine blk_ret ?_
     refine nrm_ret ?_
     refine nrm_ret ?_
     refine blk_ret ?_
     refine nrm_ret ?_
     refine nrm_ret ?_
     have hq1 := Option.some.inj hL1
     subst hq1
     dsimp only at hF
     have hq2 := Option.some.inj hF
     subst hq2
     refine fn_ret1 rfl rfl ?_
     exact ⟨_, rfl, bool_res hC2 _⟩
    replace hL1 := ite_f hL1 hc2
    refine W_skip ?_
    refine blk_normal ?_
    refine nrm_normal ?_
    refine W_reg ?_
    refine WL_move rfl rfl ?_
    refine WL_add rfl rfl rfl ?_
    refine WL_assign rfl rfl ?_
    refine WL_nil ?_
    refine nrm_sub (l' := [(0, u1), (3, (.int .i64 (w64 (x1 + 1))))]) ⟨rfl, rfl, trivial⟩ ?_
    exact ⟨k1, Nat.lt_succ_self _, w64 (x1 + 1), rfl, ((Keep.of hB1).then hB2).below, hC2, hL1⟩
   replace hL1 := ite_f hL1 hc1
   refine W_exit ?_
   refine nrm_exit ?_
   refine nrm_exit ?_
   refine blk_exit ?_
   have hq3 := Option.some.inj hL1
   subst hq3
   refine nrm_sub (l' := [(0, u1)]) ⟨rfl, trivial⟩ ?_
   exact ⟨rfl, rfl, (Keep.of hB1).below, hC1⟩
 rintro l2 _ w3 hs2 ⟨rfl, rfl, hB3, hC3⟩
 try dsimp only at hF
 refine nrm_sub' hs2 ?_
 clear hs2
 refine W_seq_reg ?_
 refine WL_move rfl rfl ?_
 refine WL_len Try.underlying26 g1 rfl rfl ?_
 obtain ⟨x4, hr3, hF⟩ := bind_some hF
 refine WL_call Try.call24 rfl rfl (c_S_l1In (List.length a1 : Int) 1 3 x4 hr3) ?_
 intro _ w4 hv2
 obtain ⟨rfl, hB4⟩ := res_bool hv2
 have hC4 := hC3.grow hB4
 refine WL_assign rfl rfl ?_
 refine WL_nil ?_
 refine W_ret ?_
 have hq4 := Option.some.inj hF
 subst hq4
 refine fn_ret1 rfl rfl ?_
 exact ⟨_, rfl, bool_res hC4 _⟩

theorem c_S_l5AnyMethod {w0 : World} {Fs : List (List Nat)} (pb1 : Nat) (a1 : ((List UInt8) × Int × Int)) (u1 : Value) (g1 : RO Fs.flatten w0 u1 a1.1) (a2 : (List Int)) (u2 : Value) (g2 : RO Fs.flatten w0 u2 a2) (hH : Hold [Item.box pb1 [u1, (.int .i64 a1.2.1), (.int .i64 a1.2.2)]] w0 Fs) (hn : Fs.flatten.Nodup) (rr : ((Int × (List Int) × Int × Int × Int) × ((List UInt8) × Int × Int))) (hF : S.l5AnyMethod a1 a2 = some rr) :
 Calls Try.prog 50 [(ptr pb1 0), u2].toArray w0 fun e w' => ∃ v, e = .returned v ∧ ∃ q0 : Value, v = q0 ∧ Ctx Fs.flatten w0 w' [Item.own q0 (rr.1 : (Int × (List Int) × Int × Int × Int)), Item.box pb1 [u1, (.int .i64 rr.2.2.1), (.int .i64 rr.2.2.2)]] := by
 refine calls_of_W Try.func50 rfl rfl ?_
 have hC0 := Ctx.startIn hH hn
 unfold S.l5AnyMethod at hF
 refine W_seq_reg ?_
 refine WL_allocK hC0 zero47 rfl rfl (fun b1 w1 hC1 hB1 hN1 => ?_)
 refine WL_nil ?_
 refine W_seq_reg ?_
 refine WL_build (vs := [(4, (.int .i64 1))]) rfl rfl rfl (built47_4 rfl) ?_
 refine WL_allocK hC1 zero47 rfl rfl (fun b2 w2 hC2 hB2 hN2 => ?_)
 refine WL_store_box_aggK (cs' := [(.int .i64 0), (.slice none 0 0), (.int .i64 0), (.int .i64 0), (.int .i64 1)]) (new := [(.int .i64 0), (.slice none 0 0), (.int .i64 0), (.int .i64 0), (.int .i64 1)]) hC2 0 rfl rfl (by intro v hv; simp only [List.mem_cons, List.not_mem_nil, or_false] at hv; rcases hv with rfl | rfl | rfl | rfl | rfl; exact rfl; exact rfl; exact rfl; exact rfl; exact rfl) rfl Try.sizeOf47 rfl rfl (fun w3 hC3 hKp1 => ?_)
 try dsimp only [List.set] at hC3
 have hk1 := Keep.over ((Keep.of hB1).then hB2) (Nat.le_trans (Keep.of hB1).size hN2) hKp1
 have hk2 := Keep.over (Keep.of hB2) hN2 hKp1
 refine WL_nil ?_
 refine W_seq ?_
 refine W_seq_reg ?_
 refine WL_move rfl rfl ?_
 obtain ⟨x1, hr1, hF⟩ := bind_some hF
 refine WL_call Try.call60 rfl rfl (c_S_IsSchema a2 u2 (g2.now hC3.keep) x1 hr1) ?_
 intro _ w4 hv1
 obtain ⟨rfl, hB3⟩ := res_bool hv1
 have hC4 := hC3.grow hB3
 refine WL_nil ?_
 obtain ⟨r1, hr2, hF⟩ := bind_some hF
 refine W_norm (fun l w => ∃ x2 : Int, ∃ v1 : Value, ∃ x3 : (List Int), ∃ x4 : Int, ∃ x5 : Int, ∃ x6 : Int, ∃ x7 : Int, ∃ x8 : Int, (x2, x3, x4, x5, x6, x7, x8) = r1 ∧ l = [(0, (ptr pb1 0)), (4, (ptr b1 0)), (5, (ptr b2 0))] ∧ Ctx Fs.flatten w0 w [Item.own v1 (x3 : (List Int)), Item.box b2 [(.int .i64 x2), v1, (.int .i64 x4), (.int .i64 x5), (.int .i64 x6)], Item.box b1 [(.int .i64 0), (.slice none 0 0), (.int .i64 0), (.int .i64 0), (.int .i64 0)], Item.box pb1 [u1, (.int .i64 x7), (.int .i64 x8)]]) ?_ ?_
 ·refine W_cond rfl (fun hc1 => ?_) (fun hc1 => ?_)
  ·replace hr2 := ite_t hr2 hc1
   refine W_reg ?_
   refine WL_move rfl rfl ?_
   refine WL_move rfl rfl ?_
   obtain ⟨x9, hr3, hr2⟩ := bind_some hr2
   have hC6 := hC4.f2
   obtain ⟨Fs1, hH1, hn1, hF1, hO1, hb1⟩ := Ctx.lend2 (As := [Item.box b2 [(.int .i64 0), (.slice none 0 0), (.int .i64 0), (.int .i64 0), (.int .i64 1)], Item.box b1 [(.int .i64 0), (.slice none 0 0), (.int .i64 0), (.int .i64 0), (.int .i64 0)]]) [Item.box pb1 [u1, (.int .i64 a1.2.1), (.int .i64 a1.2.2)]] hC6
   refine WL_call Try.call57 rfl rfl (c_S_l5Method pb1 (a1.1, a1.2.1, a1.2.2) u1 (RO.lent g1 hC6.keep hF1) a2 u2 (RO.lent g2 hC6.keep hF1) hH1 hn1 x9 hr3) ?_
   rintro v2 w6 ⟨_, rfl, hq1⟩
   have hC7 : Ctx Fs.flatten w0 w6 [Item.own v2 (x9.1 : (Int × (List Int) × Int × Int × Int)), Item.box pb1 [u1, (.int .i64 x9.2.2.1), (.int .i64 x9.2.2.2)], Item.box b2 [(.int .i64 0), (.slice none 0 0), (.int .i64 0), (.int .i64 0), (.int .i64 1)], Item.box b1 [(.int .i64 0), (.slice none 0 0), (.int .i64 0), (.int .i64 0), (.int .i64 0)]] := hb1 _ _ hq1
   obtain ⟨v3, rfl, hC8⟩ := st47_own hC7
   refine WL_store_box_aggK (cs' := [(.int .i64 x9.1.1), v3, (.int .i64 x9.1.2.2.1), (.int .i64 x9.1.2.2.2.1), (.int .i64 x9.1.2.2.2.2)]) (new := [(.int .i64 x9.1.1), v3, (.int .i64 x9.1.2.2.1), (.int .i64 x9.1.2.2.2.1), (.int .i64 x9.1.2.2.2.2)]) hC8 2 rfl rfl (by intro v hv; simp only [List.mem_cons, List.not_mem_nil, or_false] at hv; rcases hv with rfl | rfl | rfl | rfl | rfl; exact rfl; exact (ro_one (hC8.ro 0 rfl)); exact rfl; exact rfl; exact rfl) rfl Try.sizeOf47 rfl rfl (fun w7 hC9 hKp2 => ?_)
   try dsimp only [List.set] at hC9
   refine WL_nil ?_
   have hq2 := Option.some.inj hr2
   subst hq2
   have hC10 := hC9.f1
   have hC11 := hC10.f3
   have hC12 := hC11.f3
   have hC13 := hC12.f3
   refine nrm_sub (l' := [(0, (ptr pb1 0)), (4, (ptr b1 0)), (5, (ptr b2 0))]) ⟨rfl, rfl, rfl, trivial⟩ ?_
   exact ⟨x9.1.1, v3, x9.1.2.1, x9.1.2.2.1, x9.1.2.2.2.1, x9.1.2.2.2.2, x9.2.2.1, x9.2.2.2, rfl, rfl, hC13⟩
  replace hr2 := ite_f hr2 hc1
  refine W_skip ?_
  have hq3 := Option.some.inj hr2
  subst hq3
  have hC14 := hC4.triv (nil_val (α := Int))
  refine nrm_sub (l' := [(0, (ptr pb1 0)), (4, (ptr b1 0)), (5, (ptr b2 0))]) ⟨rfl, rfl, rfl, trivial⟩ ?_
  exact ⟨0, (.slice none 0 0), [], 0, 0, 1, a1.2.1, a1.2.2, rfl, rfl, hC14⟩
 rintro l1 _ w5 hs1 ⟨x2, v1, x3, x4, x5, x6, x7, x8, rfl, rfl, hC5⟩
 try dsimp only at hF
 refine nrm_sub' hs1 ?_
 clear hs1
 refine W_seq ?_
 refine W_seq_reg ?_
 refine WL_move rfl rfl ?_
 obtain ⟨x10, hr4, hF⟩ := bind_some hF
 have hC15 := hC5.f3
 obtain ⟨Fs2, hH2, hn2, hF2, hO2, hb2⟩ := Ctx.lend2 (As := [Item.own v1 (x3 : (List Int)), Item.box b2 [(.int .i64 x2), v1, (.int .i64 x4), (.int .i64 x5), (.int .i64 x6)], Item.box b1 [(.int .i64 0), (.slice none 0 0), (.int .i64 0), (.int .i64 0), (.int .i64 0)]]) [Item.box pb1 [u1, (.int .i64 x7), (.int .i64 x8)]] hC15
 refine WL_call Try.call41 rfl rfl (c_S_l1Below pb1 (a1.1, x7, x8) u1 (RO.lent g1 hC15.keep hF2) 10 hH2 hn2 x10 hr4) ?_
 rintro _ w9 ⟨rfl, hq4⟩
 have hC16 : Ctx Fs.flatten w0 w9 [Item.box pb1 [u1, (.int .i64 x10.2.2.1), (.int .i64 x10.2.2.2)], Item.own v1 (x3 : (List Int)), Item.box b2 [(.int .i64 x2), v1, (.int .i64 x4), (.int .i64 x5), (.int .i64 x6)], Item.box b1 [(.int .i64 0), (.slice none 0 0), (.int .i64 0), (.int .i64 0), (.int .i64 0)]] := hb2 _ _ hq4
 refine WL_nil ?_
 refine W_block ?_
 refine W_seq_reg ?_
 refine WL_eql rfl rfl rfl ?_
 refine WL_assign rfl rfl ?_
 refine WL_nil ?_
 obtain ⟨r2, hr5, hF⟩ := bind_some hF
 refine W_norm (fun l w => ∃ x11 : Int, ∃ x12 : Int, ∃ x13 : Int, ∃ v4 : Value, ∃ x14 : (List Int), ∃ x15 : Int, ∃ x16 : Int, ∃ x17 : Int, (x11, x12, x13, x14, x15, x16, x17) = r2 ∧ l = [(4, (ptr b1 0)), (5, (ptr b2 0))] ∧ Ctx Fs.flatten w0 w [Item.box pb1 [u1, (.int .i64 x11), (.int .i64 x12)], Item.own v4 (x14 : (List Int)), Item.box b2 [(.int .i64 x13), v4, (.int .i64 x15), (.int .i64 x16), (.int .i64 x17)], Item.box b1 [(.int .i64 0), (.slice none 0 0), (.int .i64 0), (.int .i64 0), (.int .i64 0)]]) ?_ ?_
 ·refine W_cond rfl (fun hc2 => ?_) (fun hc2 => ?_)
  ·replace hr5 := ite_t hr5 hc2
   refine W_reg ?_
   refine WL_move rfl rfl ?_
   refine WL_buildSlice (vs := [(.int .i64 (-1)), (.int .i64 9), (.int .i64 10)]) hC16 Try.underlying26 ty3 rfl rfl rfl rfl (by intro v hv; simp only [List.mem_cons, List.not_mem_nil, or_false] at hv; rcases hv with rfl | rfl | rfl <;> rfl) rfl rfl (fun b3 w11 hC18 hB6 => ?_)
   have hC19 := hC18.row0 (α := Int)
   have hC20 := hC19.triv (int_val (10))
   have hC21 := hC20.row1
   have hC22 := hC21.triv (int_val (9))
   have hC23 := hC22.row1
   have hC24 := hC23.triv (int_val ((-1)))
   have hC25 := hC24.row1
   have hC26 := hC25.front 1 rfl
   dsimp only [List.eraseIdx, List.cons_append, List.nil_append, List.append_nil] at hC26
   have hC27 : Ctx Fs.flatten w0 w11 (Item.own (.slice (some ⟨b3, 0, none⟩) 3 3) ([(-1), 9, 10] : List Int) :: [Item.box pb1 [u1, (.int .i64 x10.2.2.1), (.int .i64 x10.2.2.2)], Item.own v1 (x3 : (List Int)), Item.box b2 [(.int .i64 x2), v1, (.int .i64 x4), (.int .i64 x5), (.int .i64 x6)], Item.box b1 [(.int .i64 0), (.slice none 0 0), (.int .i64 0), (.int .i64 0), (.int .i64 0)]]) := hC26.rowOwn (by simp [maxLen])
   obtain ⟨x18, hr6, hr5⟩ := bind_some hr5
   have hC28 := hC27.f1
   obtain ⟨Fs3, hH3, hn3, hF3, hO3, hb3⟩ := Ctx.lend2 (As := [Item.own (.slice (some ⟨b3, 0, none⟩) 3 3) ([(-1), 9, 10] : (List Int)), Item.own v1 (x3 : (List Int)), Item.box b2 [(.int .i64 x2), v1, (.int .i64 x4), (.int .i64 x5), (.int .i64 x6)], Item.box b1 [(.int .i64 0), (.slice none 0 0), (.int .i64 0), (.int .i64 0), (.int .i64 0)]]) [Item.box pb1 [u1, (.int .i64 x10.2.2.1), (.int .i64 x10.2.2.2)]] hC28
   refine WL_call Try.call55 rfl rfl (c_S_l1PickInt pb1 (a1.1, x10.2.2.1, x10.2.2.2) u1 (RO.lent g1 hC28.keep hF3) ([(-1), 9, 10]) (.slice (some ⟨b3, 0, none⟩) 3 3) (hO3 0 _ _ _ rfl) hH3 hn3 x18 hr6) ?_
   rintro _ w12 ⟨rfl, hq5⟩
   have hC29 : Ctx Fs.flatten w0 w12 [Item.box pb1 [u1, (.int .i64 x18.2.2.1), (.int .i64 x18.2.2.2)], Item.own (.slice (some ⟨b3, 0, none⟩) 3 3) ([(-1), 9, 10] : (List Int)), Item.own v1 (x3 : (List Int)), Item.box b2 [(.int .i64 x2), v1, (.int .i64 x4), (.int .i64 x5), (.int .i64 x6)], Item.box b1 [(.int .i64 0), (.slice none 0 0), (.int .i64 0), (.int .i64 0), (.int .i64 0)]] := hb3 _ _ hq5
   refine WL_field Try.underlying47 rfl rfl (fun w => ⟨_, Try.sizeOf3 w⟩) rfl rfl ?_
   refine WL_store_boxK (cs' := [(.int .i64 x2), v1, (.int .i64 x18.1), (.int .i64 x5), (.int .i64 x6)]) hC29 3 rfl rfl rfl rfl Try.sizeOf3 rfl rfl (fun w13 hC30 hKp3 => ?_)
   try dsimp only [List.set] at hC30
   refine WL_nil ?_
   have hq6 := Option.some.inj hr5
   subst hq6
   have hC31 := hC30.f4
   have hC32 := hC31.f4
   have hC33 := hC32.f4
   have hC34 := hC33.f3
   have hC35 := hC34.h4
   refine nrm_sub (l' := [(4, (ptr b1 0)), (5, (ptr b2 0))]) ⟨rfl, rfl, trivial⟩ ?_
   exact ⟨x18.2.2.1, x18.2.2.2, x2, v1, x3, x18.1, x5, x6, rfl, rfl, hC35⟩
  replace hr5 := ite_f hr5 hc2
  refine W_seq_reg ?_
  refine WL_eql rfl rfl rfl ?_
  refine WL_assign rfl rfl ?_
  refine WL_nil ?_
  obtain ⟨r3, hr7, hr5⟩ := bind_some hr5
  refine W_norm (fun l w => ∃ x19 : Int, ∃ x20 : Int, ∃ x21 : Int, ∃ v5 : Value, ∃ x22 : (List Int), ∃ x23 : Int, ∃ x24 : Int, ∃ x25 : Int, (x19, x20, x21, x22, x23, x24, x25) = r3 ∧ l = [(4, (ptr b1 0)), (5, (ptr b2 0))] ∧ Ctx Fs.flatten w0 w [Item.box pb1 [u1, (.int .i64 x19), (.int .i64 x20)], Item.own v5 (x22 : (List Int)), Item.box b2 [(.int .i64 x21), v5, (.int .i64 x23), (.int .i64 x24), (.int .i64 x25)], Item.box b1 [(.int .i64 0), (.slice none 0 0), (.int .i64 0), (.int .i64 0), (.int .i64 0)]]) ?_ ?_
  ·refine W_cond rfl (fun hc3 => ?_) (fun hc3 => ?_)
   ·replace hr7 := ite_t hr7 hc3
    obtain ⟨r4, hr8, hr7⟩ := bind_some hr7
    refine W_norm (fun l w => ∃ x26 : Int, ∃ x27 : Int, ∃ x28 : Int, ∃ v6 : Value, ∃ x29 : (List Int), ∃ x30 : Int, ∃ x31 : Int, ∃ x32 : Int, (x26, x27, x28, x29, x30, x31, x32) = r4 ∧ l = [(4, (ptr b1 0)), (5, (ptr b2 0))] ∧ Ctx Fs.flatten w0 w [Item.box pb1 [u1, (.int .i64 x26), (.int .i64 x27)], Item.own v6 (x29 : (List Int)), Item.box b2 [(.int .i64 x28), v6, (.int .i64 x30), (.int .i64 x31), (.int .i64 x32)], Item.box b1 [(.int .i64 0), (.slice none 0 0), (.int .i64 0), (.int .i64 0), (.int .i64 0)]]) ?_ ?_
    ·refine W_drawn 9 rfl hmix (fun w16 hB9 => ?_)
     have hC38 := hC16.grow hB9
     refine WA_tk 0 (by kernel_rfl) rfl rfl (fl_field Try.underlying47 rfl rfl (fun w => ⟨_, Try.sizeOf26 w⟩) rfl) ?_
     refine WL_field Try.underlying47 rfl rfl (fun w => ⟨_, Try.sizeOf26 w⟩) rfl rfl ?_
     refine WL_nil ?_
     refine WA_tk 2 (by kernel_rfl) rfl rfl (fl_move rfl) ?_
     refine WL_move rfl rfl ?_
     refine WL_nil ?_
     refine WA_all2 (i := 1) (j := 3) (by kernel_rfl) rfl rfl ?_ ?_
     ·refine WL_load_box hC38 2 rfl rfl Try.isAgg26 rfl rfl ?_
      refine WL_nil ?_
      obtain ⟨x33, hr9, hr8⟩ := bind_some hr8
      refine WA_one 3 (by kernel_rfl) rfl ?_
      obtain ⟨Fs4, hH4, hn4, hF4, hO4, hb4⟩ := Ctx.lend2 (As := [Item.own v1 (x3 : (List Int)), Item.box b2 [(.int .i64 x2), v1, (.int .i64 x4), (.int .i64 x5), (.int .i64 x6)], Item.box b1 [(.int .i64 0), (.slice none 0 0), (.int .i64 0), (.int .i64 0), (.int .i64 0)]]) [Item.box pb1 [u1, (.int .i64 x10.2.2.1), (.int .i64 x10.2.2.2)]] hC38
      refine WL_call Try.call41 rfl rfl (c_S_l1Below pb1 (a1.1, x10.2.2.1, x10.2.2.2) u1 (RO.lent g1 hC38.keep hF4) 5 hH4 hn4 x33 hr9) ?_
      rintro _ w17 ⟨rfl, hq7⟩
      have hC39 : Ctx Fs.flatten w0 w17 [Item.box pb1 [u1, (.int .i64 x33.2.2.1), (.int .i64 x33.2.2.2)], Item.own v1 (x3 : (List Int)), Item.box b2 [(.int .i64 x2), v1, (.int .i64 x4), (.int .i64 x5), (.int .i64 x6)], Item.box b1 [(.int .i64 0), (.slice none 0 0), (.int .i64 0), (.int .i64 0), (.int .i64 0)]] := hb4 _ _ hq7
      refine WL_nil ?_
      refine WA_tk 4 (by kernel_rfl) rfl rfl (fl_sub rfl rfl) ?_
      refine WL_sub rfl rfl rfl ?_
      refine WL_nil ?_
      refine WA_one 5 (by kernel_rfl) rfl ?_
      refine WL_buildSlice (vs := [(.int .i64 (w64 (x33.1 - 1)))]) hC39 Try.underlying26 ty3 rfl rfl rfl rfl (by intro v hv; simp only [List.mem_cons, List.not_mem_nil, or_false] at hv; rcases hv with rfl <;> rfl) rfl rfl (fun b4 w18 hC40 hB10 => ?_)
      have hC41 := hC40.row0 (α := Int)
      have hC42 := hC41.triv (int_val (w64 (x33.1 - 1)))
      have hC43 := hC42.row1
      have hC44 := hC43.front 1 rfl
      dsimp only [List.eraseIdx, List.cons_append, List.nil_append, List.append_nil] at hC44
      have hC45 : Ctx Fs.flatten w0 w18 (Item.own (.slice (some ⟨b4, 0, none⟩) 1 1) ([w64 (x33.1 - 1)] : List Int) :: [Item.box pb1 [u1, (.int .i64 x33.2.2.1), (.int .i64 x33.2.2.2)], Item.own v1 (x3 : (List Int)), Item.box b2 [(.int .i64 x2), v1, (.int .i64 x4), (.int .i64 x5), (.int .i64 x6)], Item.box b1 [(.int .i64 0), (.slice none 0 0), (.int .i64 0), (.int .i64 0), (.int .i64 0)]]) := hC44.rowOwn (by simp [maxLen])
      refine WL_nil ?_
      obtain ⟨x34, hx1, hr8⟩ := bind_some hr8
      refine WA_one 6 (by kernel_rfl) rfl ?_
      refine WL_append_flat (α := Int) hC45 2 rfl (hC45.ro 0 rfl) (Keep.refl _ _) Try.underlying26 ty3 rfl hx1 rfl rfl rfl (fun v7 w19 hC46 => ?_)
      try dsimp only [List.set] at hC46
      refine WL_nil ?_
      refine WA_tk 7 (by kernel_rfl) rfl rfl (fl_field Try.underlying47 rfl rfl (fun w => ⟨_, Try.sizeOf26 w⟩) rfl) ?_
      refine WL_field Try.underlying47 rfl rfl (fun w => ⟨_, Try.sizeOf26 w⟩) rfl rfl ?_
      refine WL_nil ?_
      refine WA_one 8 (by kernel_rfl) rfl ?_
      refine WL_store_boxK (cs' := [(.int .i64 x2), v7, (.int .i64 x4), (.int .i64 x5), (.int .i64 x6)]) hC46 3 rfl rfl (ro_one (hC46.ro 2 rfl)) rfl Try.sizeOf26 rfl rfl (fun w20 hC47 hKp4 => ?_)
      try dsimp only [List.set] at hC47
      refine WL_nil ?_
      refine WA_done (by kernel_rfl) ?_
      have hq8 := Option.some.inj hr8
      subst hq8
      have hC48 := hC47.f4
      have hC49 := hC48.f4
      have hC50 := hC49.f4
      have hC51 := hC50.f4
      have hC52 := hC51.h4
      refine nrm_sub (l' := [(4, (ptr b1 0)), (5, (ptr b2 0))]) ⟨rfl, rfl, trivial⟩ ?_
      exact ⟨x33.2.2.1, x33.2.2.2, x2, v7, x34, x4, x5, x6, rfl, rfl, hC52⟩
     obtain ⟨x33, hr9, hr8⟩ := bind_some hr8
     obtain ⟨Fs4, hH4, hn4, hF4, hO4, hb4⟩ := Ctx.lend2 (As := [Item.own v1 (x3 : (List Int)), Item.box b2 [(.int .i64 x2), v1, (.int .i64 x4), (.int .i64 x5), (.int .i64 x6)], Item.box b1 [(.int .i64 0), (.slice none 0 0), (.int .i64 0), (.int .i64 0), (.int .i64 0)]]) [Item.box pb1 [u1, (.int .i64 x10.2.2.1), (.int .i64 x10.2.2.2)]] hC38
     refine WL_call Try.call41 rfl rfl (c_S_l1Below pb1 (a1.1, x10.2.2.1, x10.2.2.2) u1 (RO.lent g1 hC38.keep hF4) 5 hH4 hn4 x33 hr9) ?_
     rintro _ w17 ⟨rfl, hq7⟩
     have hC39 : Ctx Fs.flatten w0 w17 [Item.box pb1 [u1, (.int .i64 x33.2.2.1), (.int .i64 x33.2.2.2)], Item.own v1 (x3 : (List Int)), Item.box b2 [(.int .i64 x2), v1, (.int .i64 x4), (.int .i64 x5), (.int .i64 x6)], Item.box b1 [(.int .i64 0), (.slice none 0 0), (.int .i64 0), (.int .i64 0), (.int .i64 0)]] := hb4 _ _ hq7
     refine WL_nil ?_
     refine WA_tk 4 (by kernel_rfl) rfl rfl (fl_sub rfl rfl) ?_
     refine WL_sub rfl rfl rfl ?_
     refine WL_nil ?_
     refine WA.sub (l' := [(0, (ptr pb1 0)), (4, (ptr b1 0)), (5, (ptr b2 0)), (12, (ptr pb1 0)), (13, (.int .i64 x10.1)), (14, (.bool (decide (x10.1 = 0)))), (15, (.bool (decide (x10.1 = 0)))), (20, (.bool (decide (x10.1 = 1)))), (21, (.bool (decide (x10.1 = 1)))), (22, (ptr b2 1)), (24, (ptr pb1 0)), (25, (.int .i64 x33.1)), (26, (.int .i64 (w64 (x33.1 - 1))))]) ?_ ⟨rfl, rfl, rfl, rfl, rfl, rfl, rfl, rfl, rfl, rfl, rfl, rfl, rfl, trivial⟩
     refine WA_postsE [⟨1, [], fun vs => PW.val v1, []⟩, ⟨5, [], fun vs => PW.own ([w64 (x33.1 - 1)] : (List Int)), []⟩] [[], []] 3 rfl (by kernel_rfl) (by kernel_rfl) rfl ?_ ?_
     ·refine StepsE_cons rfl ?_ ?_
      ·intro w19 hB11
       refine DepsE_nil ?_
       refine ⟨_, rfl, ?_⟩
       refine WL_load_box (hC39.grow hB11) 2 rfl rfl Try.isAgg26 rfl rfl ?_
       refine WL_nil ?_
       exact FinE_val (Below.refl _ _) rfl rfl ⟨rfl, rfl⟩
      refine StepsE_cons rfl ?_ ?_
      ·intro w19 hB11
       refine DepsE_nil ?_
       refine ⟨_, rfl, ?_⟩
       refine WL_buildSlice (vs := [(.int .i64 (w64 (x33.1 - 1)))]) (Ctx.start w19) Try.underlying26 ty3 rfl rfl rfl rfl (by intro v hv; simp only [List.mem_cons, List.not_mem_nil, or_false] at hv; rcases hv with rfl <;> rfl) rfl rfl (fun b4 w18 hC40 hB10 => ?_)
       have hC41 := hC40.row0 (α := Int)
       have hC42 := hC41.triv (int_val (w64 (x33.1 - 1)))
       have hC43 := hC42.row1
       have hC44 := hC43.front 1 rfl
       dsimp only [List.eraseIdx, List.cons_append, List.nil_append, List.append_nil] at hC44
       have hC45 : Ctx [] w19 w18 (Item.own (.slice (some ⟨b4, 0, none⟩) 1 1) ([w64 (x33.1 - 1)] : List Int) :: []) := hC44.rowOwn (by simp [maxLen])
       refine WL_nil ?_
       exact FinE_ctx hC45 rfl rfl (fun F h => h)
      exact StepsE_nil
     intro w20 hB12
     refine AllE_cons rfl rfl rfl ?_
     rintro _ _ ⟨rfl, rfl⟩
     refine AllE_cons rfl rfl rfl ?_
     intro v7 F1 hv2
     refine AllE_nil ?_
     intro hn5 hb5
     have hC46 := hC39.pushL hB12 (Bs := [Item.own v7 ([w64 (x33.1 - 1)] : (List Int))]) (Fs := [F1]) ⟨F1, _, rfl, hv2, rfl⟩ (by simpa using hn5) (fun b h => (hb5 b (by simpa using h)).1)
     obtain ⟨x34, hx1, hr8⟩ := bind_some hr8
     refine WA_one 6 (by kernel_rfl) rfl ?_
     refine WL_append_flat (α := Int) hC46 2 rfl (hC46.ro 0 rfl) (Keep.refl _ _) Try.underlying26 ty3 rfl hx1 rfl rfl rfl (fun v8 w21 hC47 => ?_)
     try dsimp only [List.set] at hC47
     refine WL_nil ?_
     refine WA_tk 7 (by kernel_rfl) rfl rfl (fl_field Try.underlying47 rfl rfl (fun w => ⟨_, Try.sizeOf26 w⟩) rfl) ?_
     refine WL_field Try.underlying47 rfl rfl (fun w => ⟨_, Try.sizeOf26 w⟩) rfl rfl ?_
     refine WL_nil ?_
     refine WA_one 8 (by kernel_rfl) rfl ?_
     refine WL_store_boxK (cs' := [(.int .i64 x2), v8, (.int .i64 x4), (.int .i64 x5), (.int .i64 x6)]) hC47 3 rfl rfl (ro_one (hC47.ro 2 rfl)) rfl Try.sizeOf26 rfl rfl (fun w22 hC48 hKp4 => ?_)
     try dsimp only [List.set] at hC48
     refine WL_nil ?_
     refine WA_done (by kernel_rfl) ?_
     have hq8 := Option.some.inj hr8
     subst hq8
     have hC49 := hC48.f4
     have hC50 := hC49.f4
     have hC51 := hC50.f4
     have hC52 := hC51.f4
     have hC53 := hC52.h4
     refine nrm_sub (l' := [(4, (ptr b1 0)), (5, (ptr b2 0))]) ⟨rfl, rfl, trivial⟩ ?_
     exact ⟨x33.2.2.1, x33.2.2.2, x2, v8, x34, x4, x5, x6, rfl, rfl, hC53⟩
    rintro l4 _ w15 hs4 ⟨x26, x27, x28, v6, x29, x30, x31, x32, rfl, rfl, hC37⟩
    try dsimp only at hr7
    have hq9 := Option.some.inj hr7
    subst hq9
    refine nrm_subs (l2 := [(4, (ptr b1 0)), (5, (ptr b2 0))]) hs4 ⟨rfl, rfl, trivial⟩ ?_
    exact ⟨x26, x27, x28, v6, x29, x30, x31, x32, rfl, rfl, hC37⟩
   replace hr7 := ite_f hr7 hc3
   refine W_seq_reg ?_
   refine WL_eql rfl rfl rfl ?_
   refine WL_assign rfl rfl ?_
   refine WL_nil ?_
   obtain ⟨r5, hr10, hr7⟩ := bind_some hr7
   refine W_norm (fun l w => ∃ x35 : Int, ∃ x36 : Int, ∃ x37 : Int, ∃ v9 : Value, ∃ x38 : (List Int), ∃ x39 : Int, ∃ x40 : Int, ∃ x41 : Int, (x35, x36, x37, x38, x39, x40, x41) = r5 ∧ l = [(4, (ptr b1 0)), (5, (ptr b2 0))] ∧ Ctx Fs.flatten w0 w [Item.box pb1 [u1, (.int .i64 x35), (.int .i64 x36)], Item.own v9 (x38 : (List Int)), Item.box b2 [(.int .i64 x37), v9, (.int .i64 x39), (.int .i64 x40), (.int .i64 x41)], Item.box b1 [(.int .i64 0), (.slice none 0 0), (.int .i64 0), (.int .i64 0), (.int .i64 0)]]) ?_ ?_
   ·refine W_cond rfl (fun hc4 => ?_) (fun hc4 => ?_)
    ·replace hr10 := ite_t hr10 hc4
     refine W_reg ?_
     refine WL_move rfl rfl ?_
     refine WL_buildSlice (vs := [(.int .i64 0), (.int .i64 99), (.int .i64 100)]) hC16 Try.underlying26 ty3 rfl rfl rfl rfl (by intro v hv; simp only [List.mem_cons, List.not_mem_nil, or_false] at hv; rcases hv with rfl | rfl | rfl <;> rfl) rfl rfl (fun b5 w24 hC55 hB14 => ?_)
     have hC56 := hC55.row0 (α := Int)
     have hC57 := hC56.triv (int_val (100))
     have hC58 := hC57.row1
     have hC59 := hC58.triv (int_val (99))
     have hC60 := hC59.row1
     have hC61 := hC60.triv (int_val (0))
     have hC62 := hC61.row1
     have hC63 := hC62.front 1 rfl
     dsimp only [List.eraseIdx, List.cons_append, List.nil_append, List.append_nil] at hC63
     have hC64 : Ctx Fs.flatten w0 w24 (Item.own (.slice (some ⟨b5, 0, none⟩) 3 3) ([0, 99, 100] : List Int) :: [Item.box pb1 [u1, (.int .i64 x10.2.2.1), (.int .i64 x10.2.2.2)], Item.own v1 (x3 : (List Int)), Item.box b2 [(.int .i64 x2), v1, (.int .i64 x4), (.int .i64 x5), (.int .i64 x6)], Item.box b1 [(.int .i64 0), (.slice none 0 0), (.int .i64 0), (.int .i64 0), (.int .i64 0)]]) := hC63.rowOwn (by simp [maxLen])
     obtain ⟨x42, hr11, hr10⟩ := bind_some hr10
     have hC65 := hC64.f1
     obtain ⟨Fs5, hH5, hn6, hF5, hO5, hb6⟩ := Ctx.lend2 (As := [Item.own (.slice (some ⟨b5, 0, none⟩) 3 3) ([0, 99, 100] : (List Int)), Item.own v1 (x3 : (List Int)), Item.box b2 [(.int .i64 x2), v1, (.int .i64 x4), (.int .i64 x5), (.int .i64 x6)], Item.box b1 [(.int .i64 0), (.slice none 0 0), (.int .i64 0), (.int .i64 0), (.int .i64 0)]]) [Item.box pb1 [u1, (.int .i64 x10.2.2.1), (.int .i64 x10.2.2.2)]] hC65
     refine WL_call Try.call55 rfl rfl (c_S_l1PickInt pb1 (a1.1, x10.2.2.1, x10.2.2.2) u1 (RO.lent g1 hC65.keep hF5) ([0, 99, 100]) (.slice (some ⟨b5, 0, none⟩) 3 3) (hO5 0 _ _ _ rfl) hH5 hn6 x42 hr11) ?_
     rintro _ w25 ⟨rfl, hq10⟩
     have hC66 : Ctx Fs.flatten w0 w25 [Item.box pb1 [u1, (.int .i64 x42.2.2.1), (.int .i64 x42.2.2.2)], Item.own (.slice (some ⟨b5, 0, none⟩) 3 3) ([0, 99, 100] : (List Int)), Item.own v1 (x3 : (List Int)), Item.box b2 [(.int .i64 x2), v1, (.int .i64 x4), (.int .i64 x5), (.int .i64 x6)], Item.box b1 [(.int .i64 0), (.slice none 0 0), (.int .i64 0), (.int .i64 0), (.int .i64 0)]] := hb6 _ _ hq10
     refine WL_field Try.underlying47 rfl rfl (fun w => ⟨_, Try.sizeOf3 w⟩) rfl rfl ?_
     refine WL_store_boxK (cs' := [(.int .i64 x2), v1, (.int .i64 x4), (.int .i64 x5), (.int .i64 x42.1)]) hC66 3 rfl rfl rfl rfl Try.sizeOf3 rfl rfl (fun w26 hC67 hKp5 => ?_)
     try dsimp only [List.set] at hC67
     refine WL_nil ?_
     have hq11 := Option.some.inj hr10
     subst hq11
     have hC68 := hC67.f4
     have hC69 := hC68.f4
     have hC70 := hC69.f4
     have hC71 := hC70.f3
     have hC72 := hC71.h4
     refine nrm_sub (l' := [(4, (ptr b1 0)), (5, (ptr b2 0))]) ⟨rfl, rfl, trivial⟩ ?_
     exact ⟨x42.2.2.1, x42.2.2.2, x2, v1, x3, x4, x5, x42.1, rfl, rfl, hC72⟩
    replace hr10 := ite_f hr10 hc4
    refine W_seq_reg ?_
    refine WL_eql rfl rfl rfl ?_
    refine WL_assign rfl rfl ?_
    refine WL_nil ?_
    obtain ⟨r6, hr12, hr10⟩ := bind_some hr10
    refine W_norm (fun l w => ∃ x43 : Int, ∃ x44 : Int, ∃ x45 : Int, ∃ v10 : Value, ∃ x46 : (List Int), ∃ x47 : Int, ∃ x48 : Int, ∃ x49 : Int, (x43, x44, x45, x46, x47, x48, x49) = r6 ∧ l = [(4, (ptr b1 0)), (5, (ptr b2 0))] ∧ Ctx Fs.flatten w0 w [Item.box pb1 [u1, (.int .i64 x43), (.int .i64 x44)], Item.own v10 (x46 : (List Int)), Item.box b2 [(.int .i64 x45), v10, (.int .i64 x47), (.int .i64 x48), (.int .i64 x49)], Item.box b1 [(.int .i64 0), (.slice none 0 0), (.int .i64 0), (.int .i64 0), (.int .i64 0)]]) ?_ ?_
    ·refine W_cond rfl (fun hc5 => ?_) (fun hc5 => ?_)
     ·replace hr12 := ite_t hr12 hc5
      refine W_reg ?_
      refine WL_move rfl rfl ?_
      refine WL_buildSlice (vs := [(.int .i64 (-1)), (.int .i64 99), (.int .i64 100)]) hC16 Try.underlying26 ty3 rfl rfl rfl rfl (by intro v hv; simp only [List.mem_cons, List.not_mem_nil, or_false] at hv; rcases hv with rfl | rfl | rfl <;> rfl) rfl rfl (fun b6 w28 hC74 hB16 => ?_)
      have hC75 := hC74.row0 (α := Int)
      have hC76 := hC75.triv (int_val (100))
      have hC77 := hC76.row1
      have hC78 := hC77.triv (int_val (99))
      have hC79 := hC78.row1
      have hC80 := hC79.triv (int_val ((-1)))
      have hC81 := hC80.row1
      have hC82 := hC81.front 1 rfl
      dsimp only [List.eraseIdx, List.cons_append, List.nil_append, List.append_nil] at hC82
      have hC83 : Ctx Fs.flatten w0 w28 (Item.own (.slice (some ⟨b6, 0, none⟩) 3 3) ([(-1), 99, 100] : List Int) :: [Item.box pb1 [u1, (.int .i64 x10.2.2.1), (.int .i64 x10.2.2.2)], Item.own v1 (x3 : (List Int)), Item.box b2 [(.int .i64 x2), v1, (.int .i64 x4), (.int .i64 x5), (.int .i64 x6)], Item.box b1 [(.int .i64 0), (.slice none 0 0), (.int .i64 0), (.int .i64 0), (.int .i64 0)]]) := hC82.rowOwn (by simp [maxLen])
      obtain ⟨x50, hr13, hr12⟩ := bind_some hr12
      have hC84 := hC83.f1
      obtain ⟨Fs6, hH6, hn7, hF6, hO6, hb7⟩ := Ctx.lend2 (As := [Item.own (.slice (some ⟨b6, 0, none⟩) 3 3) ([(-1), 99, 100] : (List Int)), Item.own v1 (x3 : (List Int)), Item.box b2 [(.int .i64 x2), v1, (.int .i64 x4), (.int .i64 x5), (.int .i64 x6)], Item.box b1 [(.int .i64 0), (.slice none 0 0), (.int .i64 0), (.int .i64 0), (.int .i64 0)]]) [Item.box pb1 [u1, (.int .i64 x10.2.2.1), (.int .i64 x10.2.2.2)]] hC84
      refine WL_call Try.call55 rfl rfl (c_S_l1PickInt pb1 (a1.1, x10.2.2.1, x10.2.2.2) u1 (RO.lent g1 hC84.keep hF6) ([(-1), 99, 100]) (.slice (some ⟨b6, 0, none⟩) 3 3) (hO6 0 _ _ _ rfl) hH6 hn7 x50 hr13) ?_
      rintro _ w29 ⟨rfl, hq12⟩
      have hC85 : Ctx Fs.flatten w0 w29 [Item.box pb1 [u1, (.int .i64 x50.2.2.1), (.int .i64 x50.2.2.2)], Item.own (.slice (some ⟨b6, 0, none⟩) 3 3) ([(-1), 99, 100] : (List Int)), Item.own v1 (x3 : (List Int)), Item.box b2 [(.int .i64 x2), v1, (.int .i64 x4), (.int .i64 x5), (.int .i64 x6)], Item.box b1 [(.int .i64 0), (.slice none 0 0), (.int .i64 0), (.int .i64 0), (.int .i64 0)]] := hb7 _ _ hq12
      refine WL_field Try.underlying47 rfl rfl (fun w => ⟨_, Try.sizeOf3 w⟩) rfl rfl ?_
      refine WL_store_boxK (cs' := [(.int .i64 x2), v1, (.int .i64 x4), (.int .i64 x50.1), (.int .i64 x6)]) hC85 3 rfl rfl rfl rfl Try.sizeOf3 rfl rfl (fun w30 hC86 hKp6 => ?_)
      try dsimp only [List.set] at hC86
      refine WL_nil ?_
      have hq13 := Option.some.inj hr12
      subst hq13
      have hC87 := hC86.f4
      have hC88 := hC87.f4
      have hC89 := hC88.f4
      have hC90 := hC89.f3
      have hC91 := hC90.h4
      refine nrm_sub (l' := [(4, (ptr b1 0)), (5, (ptr b2 0))]) ⟨rfl, rfl, trivial⟩ ?_
      exact ⟨x50.2.2.1, x50.2.2.2, x2, v1, x3, x4, x50.1, x6, rfl, rfl, hC91⟩
     replace hr12 := ite_f hr12 hc5
     refine W_skip ?_
     have hq14 := Option.some.inj hr12
     subst hq14
     refine nrm_sub (l' := [(4, (ptr b1 0)), (5, (ptr b2 0))]) ⟨rfl, rfl, trivial⟩ ?_
     exact ⟨x10.2.2.1, x10.2.2.2, x2, v1, x3, x4, x5, x6, rfl, rfl, hC16⟩
    rintro l6 _ w27 hs6 ⟨x43, x44, x45, v10, x46, x47, x48, x49, rfl, rfl, hC73⟩
    try dsimp only at hr10
    have hq15 := Option.some.inj hr10
    subst hq15
    refine nrm_subs (l2 := [(4, (ptr b1 0)), (5, (ptr b2 0))]) hs6 ⟨rfl, rfl, trivial⟩ ?_
    exact ⟨x43, x44, x45, v10, x46, x47, x48, x49, rfl, rfl, hC73⟩
   rintro l5 _ w23 hs5 ⟨x35, x36, x37, v9, x38, x39, x40, x41, rfl, rfl, hC54⟩
   try dsimp only at hr7
   have hq16 := Option.some.inj hr7
   subst hq16
   refine nrm_subs (l2 := [(4, (ptr b1 0)), (5, (ptr b2 0))]) hs5 ⟨rfl, rfl, trivial⟩ ?_
   exact ⟨x35, x36, x37, v9, x38, x39, x40, x41, rfl, rfl, hC54⟩
  rintro l3 _ w14 hs3 ⟨x19, x20, x21, v5, x22, x23, x24, x25, rfl, rfl, hC36⟩
  try dsimp only at hr5
  have hq17 := Option.some.inj hr5
  subst hq17
  refine nrm_subs (l2 := [(4, (ptr b1 0)), (5, (ptr b2 0))]) hs3 ⟨rfl, rfl, trivial⟩ ?_
  exact ⟨x19, x20, x21, v5, x22, x23, x24, x25, rfl, rfl, hC36⟩
 rintro l2 _ w10 hs2 ⟨x11, x12, x13, v4, x14, x15, x16, x17, rfl, rfl, hC17⟩
 try dsimp only at hF
 refine blk_normal ?_
 refine nrm_sub' hs2 ?_
 clear hs2
 refine W_seq_reg ?_
 refine WL_load_box_agg [(.int .i64 x13), v4, (.int .i64 x15), (.int .i64 x16), (.int .i64 x17)] hC17 2 rfl rfl rfl Try.isAgg47 Try.sizeOf47 rfl rfl ?_
 refine WL_store_box_aggK (cs' := [(.int .i64 x13), v4, (.int .i64 x15), (.int .i64 x16), (.int .i64 x17)]) (new := [(.int .i64 x13), v4, (.int .i64 x15), (.int .i64 x16), (.int .i64 x17)]) hC17 3 rfl rfl (by intro v hv; simp only [List.mem_cons, List.not_mem_nil, or_false] at hv; rcases hv with rfl | rfl | rfl | rfl | rfl; exact rfl; exact (ro_one (hC17.ro 1 rfl)); exact rfl; exact rfl; exact rfl) rfl Try.sizeOf47 rfl rfl (fun w31 hC92 hKp7 => ?_)
 try dsimp only [List.set] at hC92
 refine WL_nil ?_
 refine W_ret ?_
 have hq18 := Option.some.inj hF
 subst hq18
 refine fn_retG1 rfl (rv_cell_agg (cs' := [(.int .i64 x13), v4, (.int .i64 x15), (.int .i64 x16), (.int .i64 x17)]) hC92 (i := 3) rfl rfl rfl Try.isAgg47 Try.sizeOf47 rfl) ?_
 have hC94 := hC92.f1
 have hC93 := own_st47 x13 v4 x14 x15 x16 x17 hC94
 have hC95 := hC93.h2
 exact ⟨_, rfl, _, rfl, hC95⟩

theorem c_S_l2AnyFact {w0 : World} {Fs : List (List Nat)} (pb1 : Nat) (a1 : ((List UInt8) × Int × Int)) (u1 : Value) (g1 : RO Fs.flatten w0 u1 a1.1) (a2 : (List Int)) (u2 : Value) (g2 : RO Fs.flatten w0 u2 a2) (hH : Hold [Item.box pb1 [u1, (.int .i64 a1.2.1), (.int .i64 a1.2.2)]] w0 Fs) (hn : Fs.flatten.Nodup) (rr : ((Int × (List Int)) × ((List UInt8) × Int × Int))) (hF : S.l2AnyFact a1 a2 = some rr) :
 Calls Try.prog 61 [(ptr pb1 0), u2].toArray w0 fun e w' => ∃ v, e = .returned v ∧ ∃ q0 : Value, v = q0 ∧ Ctx Fs.flatten w0 w' [Item.own q0 (rr.1 : (Int × (List Int))), Item.box pb1 [u1, (.int .i64 rr.2.2.1), (.int .i64 rr.2.2.2)]] := by
 refine calls_of_W Try.func61 rfl rfl ?_
 have hC0 := Ctx.startIn hH hn
 unfold S.l2AnyFact at hF
 refine W_seq_reg ?_
 refine WL_allocK hC0 zero91 rfl rfl (fun b1 w1 hC1 hB1 hN1 => ?_)
 refine WL_nil ?_
 refine W_seq_reg ?_
 refine WL_buildSlice (vs := [(.int .i64 1)]) hC1 Try.underlying26 ty3 rfl rfl rfl rfl (by intro v hv; simp only [List.mem_cons, List.not_mem_nil, or_false] at hv; rcases hv with rfl <;> rfl) rfl rfl (fun b2 w2 hC2 hB2 => ?_)
 have hC3 := hC2.row0 (α := Int)
 have hC4 := hC3.triv (int_val (1))
 have hC5 := hC4.row1
 have hC6 := hC5.front 1 rfl
 dsimp only [List.eraseIdx, List.cons_append, List.nil_append, List.append_nil] at hC6
 have hC7 : Ctx Fs.flatten w0 w2 (Item.own (.slice (some ⟨b2, 0, none⟩) 1 1) ([1] : List Int) :: [Item.box b1 [(.int .i64 0), (.slice none 0 0)], Item.box pb1 [u1, (.int .i64 a1.2.1), (.int .i64 a1.2.2)]]) := hC6.rowOwn (by simp [maxLen])
 refine WL_build (vs := [(1, (.slice (some ⟨b2, 0, none⟩) 1 1))]) rfl rfl rfl (built91_1 (ro_cells (hC7.ro 0 rfl))) ?_
 refine WL_allocK hC7 zero91 rfl rfl (fun b3 w3 hC8 hB3 hN2 => ?_)
 refine WL_store_box_aggK (cs' := [(.int .i64 0), (.slice (some ⟨b2, 0, none⟩) 1 1)]) (new := [(.int .i64 0), (.slice (some ⟨b2, 0, none⟩) 1 1)]) hC8 0 rfl rfl (by intro v hv; simp only [List.mem_cons, List.not_mem_nil, or_false] at hv; rcases hv with rfl | rfl; exact rfl; exact (ro_one (hC8.ro 1 rfl))) rfl Try.sizeOf91 rfl rfl (fun w4 hC9 hKp1 => ?_)
 try dsimp only [List.set] at hC9
 have hk1 := Keep.over (((Keep.of hB1).then hB2).then hB3) (Nat.le_trans ((Keep.of hB1).then hB2).size hN2) hKp1
 have hk2 := Keep.over ((Keep.of hB2).then hB3) (Nat.le_trans (Keep.of hB2).size hN2) hKp1
 have hk3 := Keep.over (Keep.of hB3) hN2 hKp1
 refine WL_nil ?_
 refine W_seq ?_
 refine W_seq_reg ?_
 refine WL_move rfl rfl ?_
 obtain ⟨x1, hr1, hF⟩ := bind_some hF
 refine WL_call Try.call60 rfl rfl (c_S_IsSchema a2 u2 (g2.now hC9.keep) x1 hr1) ?_
 intro _ w5 hv1
 obtain ⟨rfl, hB4⟩ := res_bool hv1
 have hC10 := hC9.grow hB4
 refine WL_nil ?_
 obtain ⟨r1, hr2, hF⟩ := bind_some hF
 refine W_norm (fun l w => ∃ x2 : Int, ∃ v1 : Value, ∃ x3 : (List Int), ∃ x4 : Int, ∃ x5 : Int, (x2, x3, x4, x5) = r1 ∧ l = [(0, (ptr pb1 0)), (4, (ptr b1 0)), (5, (ptr b3 0))] ∧ Ctx Fs.flatten w0 w [Item.box b3 [(.int .i64 x2), v1], Item.own v1 (x3 : (List Int)), Item.box b1 [(.int .i64 0), (.slice none 0 0)], Item.box pb1 [u1, (.int .i64 x4), (.int .i64 x5)]]) ?_ ?_
 ·refine W_cond rfl (fun hc1 => ?_) (fun hc1 => ?_)
  ·replace hr2 := ite_t hr2 hc1
   refine W_reg ?_
   refine WL_move rfl rfl ?_
   refine WL_move rfl rfl ?_
   obtain ⟨x6, hr3, hr2⟩ := bind_some hr2
   have hC12 := hC10.f3
   obtain ⟨Fs1, hH1, hn1, hF1, hO1, hb1⟩ := Ctx.lend2 (As := [Item.box b3 [(.int .i64 0), (.slice (some ⟨b2, 0, none⟩) 1 1)], Item.own (.slice (some ⟨b2, 0, none⟩) 1 1) ([1] : (List Int)), Item.box b1 [(.int .i64 0), (.slice none 0 0)]]) [Item.box pb1 [u1, (.int .i64 a1.2.1), (.int .i64 a1.2.2)]] hC12
   refine WL_call Try.call59 rfl rfl (c_S_l2Fact pb1 (a1.1, a1.2.1, a1.2.2) u1 (RO.lent g1 hC12.keep hF1) a2 u2 (RO.lent g2 hC12.keep hF1) 10 hH1 hn1 x6 hr3) ?_
   rintro v2 w7 ⟨_, rfl, hq1⟩
   have hC13 : Ctx Fs.flatten w0 w7 [Item.own v2 (x6.1 : (Int × (List Int))), Item.box pb1 [u1, (.int .i64 x6.2.2.1), (.int .i64 x6.2.2.2)], Item.box b3 [(.int .i64 0), (.slice (some ⟨b2, 0, none⟩) 1 1)], Item.own (.slice (some ⟨b2, 0, none⟩) 1 1) ([1] : (List Int)), Item.box b1 [(.int .i64 0), (.slice none 0 0)]] := hb1 _ _ hq1
   obtain ⟨v3, rfl, hC14⟩ := st91_own hC13
   refine WL_store_box_aggK (cs' := [(.int .i64 x6.1.1), v3]) (new := [(.int .i64 x6.1.1), v3]) hC14 2 rfl rfl (by intro v hv; simp only [List.mem_cons, List.not_mem_nil, or_false] at hv; rcases hv with rfl | rfl; exact rfl; exact (ro_one (hC14.ro 0 rfl))) rfl Try.sizeOf91 rfl rfl (fun w9 hC15 hKp2 => ?_)
   try dsimp only [List.set] at hC15
   refine WL_nil ?_
   have hq2 := Option.some.inj hr2
   subst hq2
   have hC16 := hC15.f1
   have hC17 := hC16.f4
   have hC18 := hC17.f2
   have hC19 := hC18.f3
   have hC20 := hC19.h4
   refine nrm_sub (l' := [(0, (ptr pb1 0)), (4, (ptr b1 0)), (5, (ptr b3 0))]) ⟨rfl, rfl, rfl, trivial⟩ ?_
   exact ⟨x6.1.1, v3, x6.1.2, x6.2.2.1, x6.2.2.2, rfl, rfl, hC20⟩
  replace hr2 := ite_f hr2 hc1
  refine W_skip ?_
  have hq3 := Option.some.inj hr2
  subst hq3
  refine nrm_sub (l' := [(0, (ptr pb1 0)), (4, (ptr b1 0)), (5, (ptr b3 0))]) ⟨rfl, rfl, rfl, trivial⟩ ?_
  exact ⟨0, (.slice (some ⟨b2, 0, none⟩) 1 1), [1], a1.2.1, a1.2.2, rfl, rfl, hC10⟩
 rintro l1 _ w6 hs1 ⟨x2, v1, x3, x4, x5, rfl, rfl, hC11⟩
 try dsimp only at hF
 refine nrm_sub' hs1 ?_
 clear hs1
 refine W_seq ?_
 refine W_seq_reg ?_
 refine WL_move rfl rfl ?_
 obtain ⟨x7, hr4, hF⟩ := bind_some hF
 have hC21 := hC11.f3
 obtain ⟨Fs2, hH2, hn2, hF2, hO2, hb2⟩ := Ctx.lend2 (As := [Item.box b3 [(.int .i64 x2), v1], Item.own v1 (x3 : (List Int)), Item.box b1 [(.int .i64 0), (.slice none 0 0)]]) [Item.box pb1 [u1, (.int .i64 x4), (.int .i64 x5)]] hC21
 refine WL_call Try.call41 rfl rfl (c_S_l1Below pb1 (a1.1, x4, x5) u1 (RO.lent g1 hC21.keep hF2) 8 hH2 hn2 x7 hr4) ?_
 rintro _ w10 ⟨rfl, hq4⟩
 have hC22 : Ctx Fs.flatten w0 w10 [Item.box pb1 [u1, (.int .i64 x7.2.2.1), (.int .i64 x7.2.2.2)], Item.box b3 [(.int .i64 x2), v1], Item.own v1 (x3 : (List Int)), Item.box b1 [(.int .i64 0), (.slice none 0 0)]] := hb2 _ _ hq4
 refine WL_nil ?_
 refine W_block ?_
 refine W_seq_reg ?_
 refine WL_eql rfl rfl rfl ?_
 refine WL_assign rfl rfl ?_
 refine WL_nil ?_
 obtain ⟨r2, hr5, hF⟩ := bind_some hF
 refine W_norm (fun l w => ∃ x8 : Int, ∃ x9 : Int, ∃ x10 : Int, ∃ v4 : Value, ∃ x11 : (List Int), (x8, x9, x10, x11) = r2 ∧ l = [(4, (ptr b1 0)), (5, (ptr b3 0))] ∧ Ctx Fs.flatten w0 w [Item.box pb1 [u1, (.int .i64 x8), (.int .i64 x9)], Item.box b3 [(.int .i64 x10), v4], Item.own v4 (x11 : (List Int)), Item.box b1 [(.int .i64 0), (.slice none 0 0)]]) ?_ ?_
 ·refine W_cond rfl (fun hc2 => ?_) (fun hc2 => ?_)
  ·replace hr5 := ite_t hr5 hc2
   refine W_reg ?_
   refine WL_move rfl rfl ?_
   obtain ⟨x12, hr6, hr5⟩ := bind_some hr5
   obtain ⟨Fs3, hH3, hn3, hF3, hO3, hb3⟩ := Ctx.lend2 (As := [Item.box b3 [(.int .i64 x2), v1], Item.own v1 (x3 : (List Int)), Item.box b1 [(.int .i64 0), (.slice none 0 0)]]) [Item.box pb1 [u1, (.int .i64 x7.2.2.1), (.int .i64 x7.2.2.2)]] hC22
   refine WL_call Try.call41 rfl rfl (c_S_l1Below pb1 (a1.1, x7.2.2.1, x7.2.2.2) u1 (RO.lent g1 hC22.keep hF3) 5 hH3 hn3 x12 hr6) ?_
   rintro _ w12 ⟨rfl, hq5⟩
   have hC24 : Ctx Fs.flatten w0 w12 [Item.box pb1 [u1, (.int .i64 x12.2.2.1), (.int .i64 x12.2.2.2)], Item.box b3 [(.int .i64 x2), v1], Item.own v1 (x3 : (List Int)), Item.box b1 [(.int .i64 0), (.slice none 0 0)]] := hb3 _ _ hq5
   refine WL_sub rfl rfl rfl ?_
   refine WL_field Try.underlying91 rfl rfl (fun w => ⟨_, Try.sizeOf3 w⟩) rfl rfl ?_
   refine WL_store_boxK (cs' := [(.int .i64 (w64 (x12.1 - 1))), v1]) hC24 1 rfl rfl rfl rfl Try.sizeOf3 rfl rfl (fun w13 hC25 hKp3 => ?_)
   try dsimp only [List.set] at hC25
   refine WL_nil ?_
   have hq6 := Option.some.inj hr5
   subst hq6
   refine nrm_sub (l' := [(4, (ptr b1 0)), (5, (ptr b3 0))]) ⟨rfl, rfl, trivial⟩ ?_
   exact ⟨x12.2.2.1, x12.2.2.2, w64 (x12.1 - 1), v1, x3, rfl, rfl, hC25⟩
  replace hr5 := ite_f hr5 hc2
  refine W_seq_reg ?_
  refine WL_eql rfl rfl rfl ?_
  refine WL_assign rfl rfl ?_
  refine WL_nil ?_
  obtain ⟨r3, hr7, hr5⟩ := bind_some hr5
  refine W_norm (fun l w => ∃ x13 : Int, ∃ x14 : Int, ∃ x15 : Int, ∃ v5 : Value, ∃ x16 : (List Int), (x13, x14, x15, x16) = r3 ∧ l = [(4, (ptr b1 0)), (5, (ptr b3 0))] ∧ Ctx Fs.flatten w0 w [Item.box pb1 [u1, (.int .i64 x13), (.int .i64 x14)], Item.box b3 [(.int .i64 x15), v5], Item.own v5 (x16 : (List Int)), Item.box b1 [(.int .i64 0), (.slice none 0 0)]]) ?_ ?_
  ·refine W_cond rfl (fun hc3 => ?_) (fun hc3 => ?_)
   ·replace hr7 := ite_t hr7 hc3
    obtain ⟨r4, hr8, hr7⟩ := bind_some hr7
    refine W_norm (fun l w => ∃ x17 : (List Int), ∃ x18 : Int, ∃ x19 : Int, (x17, x18, x19) = r4 ∧ l = [(4, (ptr b1 0)), (5, (ptr b3 0))] ∧ Ctx Fs.flatten w0 w [Item.box pb1 [u1, (.int .i64 x18), (.int .i64 x19)], Item.box b3 [(.int .i64 x2), v1], Item.own v1 (x17 : (List Int)), Item.box b1 [(.int .i64 0), (.slice none 0 0)]]) ?_ ?_
    ·refine W_drawn 7 rfl hmix (fun w16 hB9 => ?_)
     have hC28 := hC22.grow hB9
     refine WA_tk 0 (by kernel_rfl) rfl rfl (fl_field Try.underlying91 rfl rfl (fun w => ⟨_, Try.sizeOf26 w⟩) rfl) ?_
     refine WL_field Try.underlying91 rfl rfl (fun w => ⟨_, Try.sizeOf26 w⟩) rfl rfl ?_
     refine WL_nil ?_
     refine WA_tk 2 (by kernel_rfl) rfl rfl (fl_move rfl) ?_
     refine WL_move rfl rfl ?_
     refine WL_nil ?_
     refine WA_all2 (i := 1) (j := 3) (by kernel_rfl) rfl rfl ?_ ?_
     ·refine WL_load_box hC28 1 rfl rfl Try.isAgg26 rfl rfl ?_
      refine WL_nil ?_
      refine WA_one 3 (by kernel_rfl) rfl ?_
      refine WL_buildSlice (vs := [(.int .i64 (-1)), (.int .i64 9), (.int .i64 10)]) hC28 Try.underlying26 ty3 rfl rfl rfl rfl (by intro v hv; simp only [List.mem_cons, List.not_mem_nil, or_false] at hv; rcases hv with rfl | rfl | rfl <;> rfl) rfl rfl (fun b4 w17 hC29 hB10 => ?_)
      have hC30 := hC29.row0 (α := Int)
      have hC31 := hC30.triv (int_val (10))
      have hC32 := hC31.row1
      have hC33 := hC32.triv (int_val (9))
      have hC34 := hC33.row1
      have hC35 := hC34.triv (int_val ((-1)))
      have hC36 := hC35.row1
      have hC37 := hC36.front 1 rfl
      dsimp only [List.eraseIdx, List.cons_append, List.nil_append, List.append_nil] at hC37
      have hC38 : Ctx Fs.flatten w0 w17 (Item.own (.slice (some ⟨b4, 0, none⟩) 3 3) ([(-1), 9, 10] : List Int) :: [Item.box pb1 [u1, (.int .i64 x7.2.2.1), (.int .i64 x7.2.2.2)], Item.box b3 [(.int .i64 x2), v1], Item.own v1 (x3 : (List Int)), Item.box b1 [(.int .i64 0), (.slice none 0 0)]]) := hC37.rowOwn (by simp [maxLen])
      refine WL_nil ?_
      obtain ⟨x20, hr9, hr8⟩ := bind_some hr8
      refine WA_one 4 (by kernel_rfl) rfl ?_
      have hC39 := hC38.f1
      obtain ⟨Fs4, hH4, hn4, hF4, hO4, hb4⟩ := Ctx.lend2 (As := [Item.own (.slice (some ⟨b4, 0, none⟩) 3 3) ([(-1), 9, 10] : (List Int)), Item.box b3 [(.int .i64 x2), v1], Item.own v1 (x3 : (List Int)), Item.box b1 [(.int .i64 0), (.slice none 0 0)]]) [Item.box pb1 [u1, (.int .i64 x7.2.2.1), (.int .i64 x7.2.2.2)]] hC39
      refine WL_call Try.call55 rfl rfl (c_S_l1PickInt pb1 (a1.1, x7.2.2.1, x7.2.2.2) u1 (RO.lent g1 hC39.keep hF4) ([(-1), 9, 10]) (.slice (some ⟨b4, 0, none⟩) 3 3) (hO4 0 _ _ _ rfl) hH4 hn4 x20 hr9) ?_
      rintro _ w18 ⟨rfl, hq7⟩
      have hC40 : Ctx Fs.flatten w0 w18 [Item.box pb1 [u1, (.int .i64 x20.2.2.1), (.int .i64 x20.2.2.2)], Item.own (.slice (some ⟨b4, 0, none⟩) 3 3) ([(-1), 9, 10] : (List Int)), Item.box b3 [(.int .i64 x2), v1], Item.own v1 (x3 : (List Int)), Item.box b1 [(.int .i64 0), (.slice none 0 0)]] := hb4 _ _ hq7
      refine WL_nil ?_
      obtain ⟨x21, hx1, hr8⟩ := bind_some hr8
      refine WA_tk 5 (by kernel_rfl) rfl rfl (fl_index_own hC40 3 rfl Try.underlying26 ty3 hx1 rfl rfl) ?_
      refine WL_index_own hC40 3 rfl Try.underlying26 ty3 hx1 rfl rfl rfl (fun b5 hE1 => ?_)
      refine WL_nil ?_
      refine WA_one 6 (by kernel_rfl) rfl ?_
      have hC42 := hC40.triv (int_val (x20.1))
      refine WL_store_elem hC42 3 rfl ty3 hE1 hx1 rfl rfl rfl (fun w19 hC41 => ?_)
      try dsimp only [List.set] at hC41
      refine WL_nil ?_
      refine WA_done (by kernel_rfl) ?_
      have hq8 := Option.some.inj hr8
      subst hq8
      have hC43 := hC41.f4
      have hC44 := hC43.f4
      have hC45 := hC44.f4
      have hC46 := hC45.f3
      have hC47 := hC46.h4
      refine nrm_sub (l' := [(4, (ptr b1 0)), (5, (ptr b3 0))]) ⟨rfl, rfl, trivial⟩ ?_
      exact ⟨(List.set x3 (Int.toNat 0) x20.1), x20.2.2.1, x20.2.2.2, rfl, rfl, hC47⟩
     refine WL_buildSlice (vs := [(.int .i64 (-1)), (.int .i64 9), (.int .i64 10)]) hC28 Try.underlying26 ty3 rfl rfl rfl rfl (by intro v hv; simp only [List.mem_cons, List.not_mem_nil, or_false] at hv; rcases hv with rfl | rfl | rfl <;> rfl) rfl rfl (fun b4 w17 hC29 hB10 => ?_)
     have hC30 := hC29.row0 (α := Int)
     have hC31 := hC30.triv (int_val (10))
     have hC32 := hC31.row1
     have hC33 := hC32.triv (int_val (9))
     have hC34 := hC33.row1
     have hC35 := hC34.triv (int_val ((-1)))
     have hC36 := hC35.row1
     have hC37 := hC36.front 1 rfl
     dsimp only [List.eraseIdx, List.cons_append, List.nil_append, List.append_nil] at hC37
     have hC38 : Ctx Fs.flatten w0 w17 (Item.own (.slice (some ⟨b4, 0, none⟩) 3 3) ([(-1), 9, 10] : List Int) :: [Item.box pb1 [u1, (.int .i64 x7.2.2.1), (.int .i64 x7.2.2.2)], Item.box b3 [(.int .i64 x2), v1], Item.own v1 (x3 : (List Int)), Item.box b1 [(.int .i64 0), (.slice none 0 0)]]) := hC37.rowOwn (by simp [maxLen])
     refine WL_nil ?_
     refine WA_all2 (i := 1) (j := 4) (by kernel_rfl) rfl rfl ?_ ?_
     ·refine WL_load_box hC38 2 rfl rfl Try.isAgg26 rfl rfl ?_
      refine WL_nil ?_
      obtain ⟨x20, hr9, hr8⟩ := bind_some hr8
      refine WA_one 4 (by kernel_rfl) rfl ?_
      have hC39 := hC38.f1
      obtain ⟨Fs4, hH4, hn4, hF4, hO4, hb4⟩ := Ctx.lend2 (As := [Item.own (.slice (some ⟨b4, 0, none⟩) 3 3) ([(-1), 9, 10] : (List Int)), Item.box b3 [(.int .i64 x2), v1], Item.own v1 (x3 : (List Int)), Item.box b1 [(.int .i64 0), (.slice none 0 0)]]) [Item.box pb1 [u1, (.int .i64 x7.2.2.1), (.int .i64 x7.2.2.2)]] hC39
      refine WL_call Try.call55 rfl rfl (c_S_l1PickInt pb1 (a1.1, x7.2.2.1, x7.2.2.2) u1 (RO.lent g1 hC39.keep hF4) ([(-1), 9, 10]) (.slice (some ⟨b4, 0, none⟩) 3 3) (hO4 0 _ _ _ rfl) hH4 hn4 x20 hr9) ?_
      rintro _ w18 ⟨rfl, hq7⟩
      have hC40 : Ctx Fs.flatten w0 w18 [Item.box pb1 [u1, (.int .i64 x20.2.2.1), (.int .i64 x20.2.2.2)], Item.own (.slice (some ⟨b4, 0, none⟩) 3 3) ([(-1), 9, 10] : (List Int)), Item.box b3 [(.int .i64 x2), v1], Item.own v1 (x3 : (List Int)), Item.box b1 [(.int .i64 0), (.slice none 0 0)]] := hb4 _ _ hq7
      refine WL_nil ?_
      obtain ⟨x21, hx1, hr8⟩ := bind_some hr8
      refine WA_tk 5 (by kernel_rfl) rfl rfl (fl_index_own hC40 3 rfl Try.underlying26 ty3 hx1 rfl rfl) ?_
      refine WL_index_own hC40 3 rfl Try.underlying26 ty3 hx1 rfl rfl rfl (fun b5 hE1 => ?_)
      refine WL_nil ?_
      refine WA_one 6 (by kernel_rfl) rfl ?_
      have hC42 := hC40.triv (int_val (x20.1))
      refine WL_store_elem hC42 3 rfl ty3 hE1 hx1 rfl rfl rfl (fun w19 hC41 => ?_)
      try dsimp only [List.set] at hC41
      refine WL_nil ?_
      refine WA_done (by kernel_rfl) ?_
      have hq8 := Option.some.inj hr8
      subst hq8
      have hC43 := hC41.f4
      have hC44 := hC43.f4
      have hC45 := hC44.f4
      have hC46 := hC45.f3
      have hC47 := hC46.h4
      refine nrm_sub (l' := [(4, (ptr b1 0)), (5, (ptr b3 0))]) ⟨rfl, rfl, trivial⟩ ?_
      exact ⟨(List.set x3 (Int.toNat 0) x20.1), x20.2.2.1, x20.2.2.2, rfl, rfl, hC47⟩
     obtain ⟨x20, hr9, hr8⟩ := bind_some hr8
     have hC39 := hC38.f1
     obtain ⟨Fs4, hH4, hn4, hF4, hO4, hb4⟩ := Ctx.lend2 (As := [Item.own (.slice (some ⟨b4, 0, none⟩) 3 3) ([(-1), 9, 10] : (List Int)), Item.box b3 [(.int .i64 x2), v1], Item.own v1 (x3 : (List Int)), Item.box b1 [(.int .i64 0), (.slice none 0 0)]]) [Item.box pb1 [u1, (.int .i64 x7.2.2.1), (.int .i64 x7.2.2.2)]] hC39
     refine WL_call Try.call55 rfl rfl (c_S_l1PickInt pb1 (a1.1, x7.2.2.1, x7.2.2.2) u1 (RO.lent g1 hC39.keep hF4) ([(-1), 9, 10]) (.slice (some ⟨b4, 0, none⟩) 3 3) (hO4 0 _ _ _ rfl) hH4 hn4 x20 hr9) ?_
     rintro _ w18 ⟨rfl, hq7⟩
     have hC40 : Ctx Fs.flatten w0 w18 [Item.box pb1 [u1, (.int .i64 x20.2.2.1), (.int .i64 x20.2.2.2)], Item.own (.slice (some ⟨b4, 0, none⟩) 3 3) ([(-1), 9, 10] : (List Int)), Item.box b3 [(.int .i64 x2), v1], Item.own v1 (x3 : (List Int)), Item.box b1 [(.int .i64 0), (.slice none 0 0)]] := hb4 _ _ hq7
     refine WL_nil ?_
     refine WA_one 1 (by kernel_rfl) rfl ?_
     refine WL_load_box hC40 2 rfl rfl Try.isAgg26 rfl rfl ?_
     refine WL_nil ?_
     obtain ⟨x21, hx1, hr8⟩ := bind_some hr8
     refine WA_tk 5 (by kernel_rfl) rfl rfl (fl_index_own hC40 3 rfl Try.underlying26 ty3 hx1 rfl rfl) ?_
     refine WL_index_own hC40 3 rfl Try.underlying26 ty3 hx1 rfl rfl rfl (fun b5 hE1 => ?_)
     refine WL_nil ?_
     refine WA_one 6 (by kernel_rfl) rfl ?_
     have hC42 := hC40.triv (int_val (x20.1))
     refine WL_store_elem hC42 3 rfl ty3 hE1 hx1 rfl rfl rfl (fun w19 hC41 => ?_)
     try dsimp only [List.set] at hC41
     refine WL_nil ?_
     refine WA_done (by kernel_rfl) ?_
     have hq8 := Option.some.inj hr8
     subst hq8
     have hC43 := hC41.f4
     have hC44 := hC43.f4
     have hC45 := hC44.f4
     have hC46 := hC45.f3
     have hC47 := hC46.h4
     refine nrm_sub (l' := [(4, (ptr b1 0)), (5, (ptr b3 0))]) ⟨rfl, rfl, trivial⟩ ?_
     exact ⟨(List.set x3 (Int.toNat 0) x20.1), x20.2.2.1, x20.2.2.2, rfl, rfl, hC47⟩
    rintro l4 _ w15 hs4 ⟨x17, x18, x19, rfl, rfl, hC27⟩
    try dsimp only at hr7
    have hq9 := Option.some.inj hr7
    subst hq9
    refine nrm_subs (l2 := [(4, (ptr b1 0)), (5, (ptr b3 0))]) hs4 ⟨rfl, rfl, trivial⟩ ?_
    exact ⟨x18, x19, x2, v1, x17, rfl, rfl, hC27⟩
   replace hr7 := ite_f hr7 hc3
   refine W_seq_reg ?_
   refine WL_eql rfl rfl rfl ?_
   refine WL_assign rfl rfl ?_
   refine WL_nil ?_
   obtain ⟨r5, hr10, hr7⟩ := bind_some hr7
   refine W_norm (fun l w => ∃ x22 : Int, ∃ v6 : Value, ∃ x23 : (List Int), (x22, x23) = r5 ∧ l = [(4, (ptr b1 0)), (5, (ptr b3 0))] ∧ Ctx Fs.flatten w0 w [Item.box pb1 [u1, (.int .i64 x7.2.2.1), (.int .i64 x7.2.2.2)], Item.box b3 [(.int .i64 x22), v6], Item.own v6 (x23 : (List Int)), Item.box b1 [(.int .i64 0), (.slice none 0 0)]]) ?_ ?_
   ·refine W_cond rfl (fun hc4 => ?_) (fun hc4 => ?_)
    ·replace hr10 := ite_t hr10 hc4
     refine W_reg ?_
     refine WL_field Try.underlying91 rfl rfl (fun w => ⟨_, Try.sizeOf26 w⟩) rfl rfl ?_
     refine WL_load_box hC22 1 rfl rfl Try.isAgg26 rfl rfl ?_
     refine WL_buildSlice (vs := [(.int .i64 1)]) hC22 Try.underlying26 ty3 rfl rfl rfl rfl (by intro v hv; simp only [List.mem_cons, List.not_mem_nil, or_false] at hv; rcases hv with rfl <;> rfl) rfl rfl (fun b6 w21 hC49 hB12 => ?_)
     have hC50 := hC49.row0 (α := Int)
     have hC51 := hC50.triv (int_val (1))
     have hC52 := hC51.row1
     have hC53 := hC52.front 1 rfl
     dsimp only [List.eraseIdx, List.cons_append, List.nil_append, List.append_nil] at hC53
     have hC54 : Ctx Fs.flatten w0 w21 (Item.own (.slice (some ⟨b6, 0, none⟩) 1 1) ([1] : List Int) :: [Item.box pb1 [u1, (.int .i64 x7.2.2.1), (.int .i64 x7.2.2.2)], Item.box b3 [(.int .i64 x2), v1], Item.own v1 (x3 : (List Int)), Item.box b1 [(.int .i64 0), (.slice none 0 0)]]) := hC53.rowOwn (by simp [maxLen])
     obtain ⟨x24, hx2, hr10⟩ := bind_some hr10
     refine WL_append_flat (α := Int) hC54 3 rfl (hC54.ro 0 rfl) (Keep.refl _ _) Try.underlying26 ty3 rfl hx2 rfl rfl rfl (fun v7 w22 hC55 => ?_)
     try dsimp only [List.set] at hC55
     refine WL_field Try.underlying91 rfl rfl (fun w => ⟨_, Try.sizeOf26 w⟩) rfl rfl ?_
     refine WL_store_boxK (cs' := [(.int .i64 x2), v7]) hC55 2 rfl rfl (ro_one (hC55.ro 3 rfl)) rfl Try.sizeOf26 rfl rfl (fun w23 hC56 hKp5 => ?_)
     try dsimp only [List.set] at hC56
     refine WL_nil ?_
     have hq10 := Option.some.inj hr10
     subst hq10
     have hC57 := hC56.f4
     have hC58 := hC57.f4
     have hC59 := hC58.f4
     have hC60 := hC59.f4
     have hC61 := hC60.h4
     refine nrm_sub (l' := [(4, (ptr b1 0)), (5, (ptr b3 0))]) ⟨rfl, rfl, trivial⟩ ?_
     exact ⟨x2, v7, x24, rfl, rfl, hC61⟩
    replace hr10 := ite_f hr10 hc4
    refine W_skip ?_
    have hq11 := Option.some.inj hr10
    subst hq11
    refine nrm_sub (l' := [(4, (ptr b1 0)), (5, (ptr b3 0))]) ⟨rfl, rfl, trivial⟩ ?_
    exact ⟨x2, v1, x3, rfl, rfl, hC22⟩
   rintro l5 _ w20 hs5 ⟨x22, v6, x23, rfl, rfl, hC48⟩
   try dsimp only at hr7
   have hq12 := Option.some.inj hr7
   subst hq12
   refine nrm_subs (l2 := [(4, (ptr b1 0)), (5, (ptr b3 0))]) hs5 ⟨rfl, rfl, trivial⟩ ?_
   exact ⟨x7.2.2.1, x7.2.2.2, x22, v6, x23, rfl, rfl, hC48⟩
  rintro l3 _ w14 hs3 ⟨x13, x14, x15, v5, x16, rfl, rfl, hC26⟩
  try dsimp only at hr5
  have hq13 := Option.some.inj hr5
  subst hq13
  refine nrm_subs (l2 := [(4, (ptr b1 0)), (5, (ptr b3 0))]) hs3 ⟨rfl, rfl, trivial⟩ ?_
  exact ⟨x13, x14, x15, v5, x16, rfl, rfl, hC26⟩
 rintro l2 _ w11 hs2 ⟨x8, x9, x10, v4, x11, rfl, rfl, hC23⟩
 try dsimp only at hF
 refine blk_normal ?_
 refine nrm_sub' hs2 ?_
 clear hs2
 refine W_seq_reg ?_
 refine WL_load_box_agg [(.int .i64 x10), v4] hC23 1 rfl rfl rfl Try.isAgg91 Try.sizeOf91 rfl rfl ?_
 refine WL_store_box_aggK (cs' := [(.int .i64 x10), v4]) (new := [(.int .i64 x10), v4]) hC23 3 rfl rfl (by intro v hv; simp only [List.mem_cons, List.not_mem_nil, or_false] at hv; rcases hv with rfl | rfl; exact rfl; exact (ro_one (hC23.ro 2 rfl))) rfl Try.sizeOf91 rfl rfl (fun w24 hC62 hKp6 => ?_)
 try dsimp only [List.set] at hC62
 refine WL_nil ?_
 refine W_ret ?_
 have hq14 := Option.some.inj hF
 subst hq14
 refine fn_retG1 rfl (rv_cell_agg (cs' := [(.int .i64 x10), v4]) hC62 (i := 3) rfl rfl rfl Try.isAgg91 Try.sizeOf91 rfl) ?_
 have hC64 := hC62.f2
 have hC63 := own_st91 x10 v4 x11 hC64
 have hC65 := hC63.h2
 exact ⟨_, rfl, _, rfl, hC65⟩

theorem c_S_l2AnyFacts {w0 : World} {Fs : List (List Nat)} (pb1 : Nat) (a1 : ((List UInt8) × Int × Int)) (u1 : Value) (g1 : RO Fs.flatten w0 u1 a1.1) (a2 : (List Int)) (u2 : Value) (g2 : RO Fs.flatten w0 u2 a2) (hH : Hold [Item.box pb1 [u1, (.int .i64 a1.2.1), (.int .i64 a1.2.2)]] w0 Fs) (hn : Fs.flatten.Nodup) (rr : ((List (Int × (List Int))) × ((List UInt8) × Int × Int))) (hF : S.l2AnyFacts a1 a2 = some rr) :
 Calls Try.prog 51 [(ptr pb1 0), u2].toArray w0 fun e w' => ∃ v, e = .returned v ∧ ∃ q0 : Value, v = q0 ∧ Ctx Fs.flatten w0 w' [Item.own q0 (rr.1 : (List (Int × (List Int)))), Item.box pb1 [u1, (.int .i64 rr.2.2.1), (.int .i64 rr.2.2.2)]] := by
 refine calls_of_W Try.func51 rfl rfl ?_
 have hC0 := Ctx.startIn hH hn
 unfold S.l2AnyFacts at hF
 refine W_seq_reg ?_
 refine WL_assign rfl rfl ?_
 refine WL_nil ?_
 refine W_seq_reg ?_
 refine WL_buildSlice (vs := []) hC0 Try.underlying72 ty91 rfl rfl rfl rfl (by simp) rfl rfl (fun b1 w1 hC1 hB1 => ?_)
 have hC2 := hC1.row0 (α := (Int × (List Int)))
 have hC3 := hC2.front 1 rfl
 dsimp only [List.eraseIdx, List.cons_append, List.nil_append, List.append_nil] at hC3
 have hC4 : Ctx Fs.flatten w0 w1 (Item.own (.slice (some ⟨b1, 0, none⟩) 0 0) (([] : List (Int × (List Int))) : List (Int × (List Int))) :: [Item.box pb1 [u1, (.int .i64 a1.2.1), (.int .i64 a1.2.2)]]) := hC3.rowOwn (by simp [maxLen])
 refine WL_assign rfl rfl ?_
 refine WL_nil ?_
 refine W_seq ?_
 refine W_seq_reg ?_
 refine WL_move rfl rfl ?_
 obtain ⟨x1, hr1, hF⟩ := bind_some hF
 refine WL_call Try.call60 rfl rfl (c_S_IsSchema a2 u2 (g2.now hC4.keep) x1 hr1) ?_
 intro _ w2 hv1
 obtain ⟨rfl, hB2⟩ := res_bool hv1
 have hC5 := hC4.grow hB2
 refine WL_nil ?_
 obtain ⟨r1, hr2, hF⟩ := bind_some hF
 refine W_norm (fun l w => ∃ x2 : Int, ∃ x3 : Int, ∃ v1 : Value, ∃ x4 : (List (Int × (List Int))), (x2, x3, x4) = r1 ∧ l = [(0, (ptr pb1 0)), (1, u2), (5, v1)] ∧ Ctx Fs.flatten w0 w [Item.own v1 (x4 : (List (Int × (List Int)))), Item.box pb1 [u1, (.int .i64 x2), (.int .i64 x3)]]) ?_ ?_
 ·refine W_cond rfl (fun hc1 => ?_) (fun hc1 => ?_)
  ·replace hr2 := ite_t hr2 hc1
   refine W_reg ?_
   refine WL_move rfl rfl ?_
   refine WL_move rfl rfl ?_
   obtain ⟨x5, hr3, hr2⟩ := bind_some hr2
   have hC7 := hC5.f1
   obtain ⟨Fs1, hH1, hn1, hF1, hO1, hb1⟩ := Ctx.lend2 (As := [Item.own (.slice (some ⟨b1, 0, none⟩) 0 0) (([] : List (Int × (List Int))) : (List (Int × (List Int))))]) [Item.box pb1 [u1, (.int .i64 a1.2.1), (.int .i64 a1.2.2)]] hC7
   refine WL_call Try.call49 rfl rfl (c_S_l2Facts pb1 (a1.1, a1.2.1, a1.2.2) u1 (RO.lent g1 hC7.keep hF1) a2 u2 (RO.lent g2 hC7.keep hF1) 8 hH1 hn1 x5 hr3) ?_
   rintro v2 w4 ⟨_, rfl, hq1⟩
   have hC8 : Ctx Fs.flatten w0 w4 [Item.own v2 (x5.1 : (List (Int × (List Int)))), Item.box pb1 [u1, (.int .i64 x5.2.2.1), (.int .i64 x5.2.2.2)], Item.own (.slice (some ⟨b1, 0, none⟩) 0 0) (([] : List (Int × (List Int))) : (List (Int × (List Int))))] := hb1 _ _ hq1
   refine WL_assign rfl rfl ?_
   refine WL_nil ?_
   have hq2 := Option.some.inj hr2
   subst hq2
   have hC9 := hC8.f1
   have hC10 := hC9.f1
   have hC11 := hC10.h2
   refine nrm_sub (l' := [(0, (ptr pb1 0)), (1, u2), (5, v2)]) ⟨rfl, rfl, rfl, trivial⟩ ?_
   exact ⟨x5.2.2.1, x5.2.2.2, v2, x5.1, rfl, rfl, hC11⟩
  replace hr2 := ite_f hr2 hc1
  refine W_skip ?_
  have hq3 := Option.some.inj hr2
  subst hq3
  refine nrm_sub (l' := [(0, (ptr pb1 0)), (1, u2), (5, (.slice (some ⟨b1, 0, none⟩) 0 0))]) ⟨rfl, rfl, rfl, trivial⟩ ?_
  exact ⟨a1.2.1, a1.2.2, (.slice (some ⟨b1, 0, none⟩) 0 0), ([] : List (Int × (List Int))), rfl, rfl, hC5⟩
 rintro l1 _ w3 hs1 ⟨x2, x3, v1, x4, rfl, rfl, hC6⟩
 try dsimp only at hF
 refine nrm_sub' hs1 ?_
 clear hs1
 refine W_seq ?_
 refine W_seq_reg ?_
 refine WL_move rfl rfl ?_
 obtain ⟨x6, hr4, hF⟩ := bind_some hF
 have hC12 := hC6.f1
 obtain ⟨Fs2, hH2, hn2, hF2, hO2, hb2⟩ := Ctx.lend2 (As := [Item.own v1 (x4 : (List (Int × (List Int))))]) [Item.box pb1 [u1, (.int .i64 x2), (.int .i64 x3)]] hC12
 refine WL_call Try.call56 rfl rfl (c_S_l1Once pb1 (a1.1, x2, x3) u1 (RO.lent g1 hC12.keep hF2) 10 hH2 hn2 x6 hr4) ?_
 rintro _ w5 ⟨rfl, hq4⟩
 have hC13 : Ctx Fs.flatten w0 w5 [Item.box pb1 [u1, (.int .i64 x6.2.2.1), (.int .i64 x6.2.2.2)], Item.own v1 (x4 : (List (Int × (List Int))))] := hb2 _ _ hq4
 refine WL_nil ?_
 obtain ⟨r2, hr5, hF⟩ := bind_some hF
 refine W_norm (fun l w => ∃ x7 : Int, ∃ x8 : Int, ∃ v3 : Value, ∃ x9 : (List (Int × (List Int))), (x7, x8, x9) = r2 ∧ l = [(5, v3)] ∧ Ctx Fs.flatten w0 w [Item.box pb1 [u1, (.int .i64 x7), (.int .i64 x8)], Item.own v3 (x9 : (List (Int × (List Int))))]) ?_ ?_
 ·refine W_cond rfl (fun hc2 => ?_) (fun hc2 => ?_)
  ·replace hr5 := ite_t hr5 hc2
   refine W_reg ?_
   refine WL_move rfl rfl ?_
   refine WL_move rfl rfl ?_
   refine WL_move rfl rfl ?_
   obtain ⟨x10, hr6, hr5⟩ := bind_some hr5
   obtain ⟨Fs3, hH3, hn3, hF3, hO3, hb3⟩ := Ctx.lend2 (As := [Item.own v1 (x4 : (List (Int × (List Int))))]) [Item.box pb1 [u1, (.int .i64 x6.2.2.1), (.int .i64 x6.2.2.2)]] hC13
   refine WL_call Try.call61 rfl rfl (c_S_l2AnyFact pb1 (a1.1, x6.2.2.1, x6.2.2.2) u1 (RO.lent g1 hC13.keep hF3) a2 u2 (RO.lent g2 hC13.keep hF3) hH3 hn3 x10 hr6) ?_
   rintro v4 w7 ⟨_, rfl, hq5⟩
   have hC15 : Ctx Fs.flatten w0 w7 [Item.own v4 (x10.1 : (Int × (List Int))), Item.box pb1 [u1, (.int .i64 x10.2.2.1), (.int .i64 x10.2.2.2)], Item.own v1 (x4 : (List (Int × (List Int))))] := hb3 _ _ hq5
   obtain ⟨v5, rfl, hC16⟩ := st91_own hC15
   refine WL_buildSlice (vs := [(.agg #[(.int .i64 x10.1.1), v5])]) hC16 Try.underlying72 ty91 rfl rfl rfl rfl (by intro v hv; simp only [List.mem_cons, List.not_mem_nil, or_false] at hv; rcases hv with rfl <;> rfl) rfl rfl (fun b2 w9 hC17 hB5 => ?_)
   have hC18 := hC17.row0 (α := (Int × (List Int)))
   have hC20 := hC18.f2
   have hC19 := own_st91 x10.1.1 v5 x10.1.2 hC20
   have hC21 := hC19.row1
   have hC22 := hC21.front 1 rfl
   dsimp only [List.eraseIdx, List.cons_append, List.nil_append, List.append_nil] at hC22
   have hC23 : Ctx Fs.flatten w0 w9 (Item.own (.slice (some ⟨b2, 0, none⟩) 1 1) ([(x10.1.1, x10.1.2)] : List (Int × (List Int))) :: [Item.box pb1 [u1, (.int .i64 x10.2.2.1), (.int .i64 x10.2.2.2)], Item.own v1 (x4 : (List (Int × (List Int))))]) := hC22.rowOwn (by simp [maxLen])
   obtain ⟨x11, hx1, hr5⟩ := bind_some hr5
   refine WL_append_head hC23 1 rfl Try.underlying72 ty91 rfl hx1 rfl rfl rfl (fun v6 w10 hC24 => ?_)
   try dsimp only [List.set] at hC24
   refine WL_assign rfl rfl ?_
   refine WL_nil ?_
   have hq6 := Option.some.inj hr5
   subst hq6
   refine nrm_sub (l' := [(5, v6)]) ⟨rfl, trivial⟩ ?_
   exact ⟨x10.2.2.1, x10.2.2.2, v6, x11, rfl, rfl, hC24⟩
  replace hr5 := ite_f hr5 hc2
  refine W_skip ?_
  have hq7 := Option.some.inj hr5
  subst hq7
  refine nrm_sub (l' := [(5, v1)]) ⟨rfl, trivial⟩ ?_
  exact ⟨x6.2.2.1, x6.2.2.2, v1, x4, rfl, rfl, hC13⟩
 rintro l2 _ w6 hs2 ⟨x7, x8, v3, x9, rfl, rfl, hC14⟩
 try dsimp only at hF
 refine nrm_sub' hs2 ?_
 clear hs2
 refine W_seq_reg ?_
 refine WL_move rfl rfl ?_
 refine WL_assign rfl rfl ?_
 refine WL_nil ?_
 refine W_ret ?_
 have hq8 := Option.some.inj hF
 subst hq8
 refine fn_ret1 rfl rfl ?_
 have hC26 := hC14.f1
 exact ⟨_, rfl, _, rfl, hC26⟩

theorem c_S_l2AnySchema {w0 : World} {Fs : List (List Nat)} (pb1 : Nat) (a1 : ((List UInt8) × Int × Int)) (u1 : Value) (g1 : RO Fs.flatten w0 u1 a1.1) (hH : Hold [Item.box pb1 [u1, (.int .i64 a1.2.1), (.int .i64 a1.2.2)]] w0 Fs) (hn : Fs.flatten.Nodup) (rr : ((List Int) × ((List UInt8) × Int × Int))) (hF : S.l2AnySchema a1 = some rr) :
 Calls Try.prog 52 [(ptr pb1 0)].toArray w0 fun e w' => ∃ v, e = .returned v ∧ ∃ q0 : Value, v = q0 ∧ Ctx Fs.flatten w0 w' [Item.own q0 (rr.1 : (List Int)), Item.box pb1 [u1, (.int .i64 rr.2.2.1), (.int .i64 rr.2.2.2)]] := by
 refine calls_of_W Try.func52 rfl rfl ?_
 have hC0 := Ctx.startIn hH hn
 unfold S.l2AnySchema at hF
 refine W_seq_reg ?_
 refine WL_assign rfl rfl ?_
 refine WL_nil ?_
 refine W_seq_reg ?_
 refine WL_move rfl rfl ?_
 obtain ⟨x1, hr1, hF⟩ := bind_some hF
 obtain ⟨Fs1, hH1, hn1, hF1, hO1, hb1⟩ := Ctx.lend2 (As := []) [Item.box pb1 [u1, (.int .i64 a1.2.1), (.int .i64 a1.2.2)]] hC0
 refine WL_call Try.call47 rfl rfl (c_S_l2Schema pb1 (a1.1, a1.2.1, a1.2.2) u1 (RO.lent g1 hC0.keep hF1) hH1 hn1 x1 hr1) ?_
 rintro v1 w1 ⟨_, rfl, hq1⟩
 have hC1 : Ctx Fs.flatten w0 w1 [Item.own v1 (x1.1 : (List Int)), Item.box pb1 [u1, (.int .i64 x1.2.2.1), (.int .i64 x1.2.2.2)]] := hb1 _ _ hq1
 refine WL_assign rfl rfl ?_
 refine WL_nil ?_
 refine W_seq ?_
 refine W_seq_reg ?_
 refine WL_move rfl rfl ?_
 obtain ⟨x2, hr2, hF⟩ := bind_some hF
 have hC2 := hC1.f1
 obtain ⟨Fs2, hH2, hn2, hF2, hO2, hb2⟩ := Ctx.lend2 (As := [Item.own v1 (x1.1 : (List Int))]) [Item.box pb1 [u1, (.int .i64 x1.2.2.1), (.int .i64 x1.2.2.2)]] hC2
 refine WL_call Try.call56 rfl rfl (c_S_l1Once pb1 (a1.1, x1.2.2.1, x1.2.2.2) u1 (RO.lent g1 hC2.keep hF2) 14 hH2 hn2 x2 hr2) ?_
 rintro _ w2 ⟨rfl, hq2⟩
 have hC3 : Ctx Fs.flatten w0 w2 [Item.box pb1 [u1, (.int .i64 x2.2.2.1), (.int .i64 x2.2.2.2)], Item.own v1 (x1.1 : (List Int))] := hb2 _ _ hq2
 refine WL_nil ?_
 obtain ⟨r1, hr3, hF⟩ := bind_some hF
 refine W_norm (fun l w => ∃ x3 : Int, ∃ x4 : Int, ∃ v2 : Value, ∃ x5 : (List Int), (x3, x4, x5) = r1 ∧ l = [(3, v2)] ∧ Ctx Fs.flatten w0 w [Item.box pb1 [u1, (.int .i64 x3), (.int .i64 x4)], Item.own v2 (x5 : (List Int))]) ?_ ?_
 ·refine W_cond rfl (fun hc1 => ?_) (fun hc1 => ?_)
  ·replace hr3 := ite_t hr3 hc1
   refine W_reg ?_
   refine WL_move rfl rfl ?_
   refine WL_move rfl rfl ?_
   refine WL_buildSlice (vs := [(.int .i64 0), (.int .i64 1), (.int .i64 4)]) hC3 Try.underlying26 ty3 rfl rfl rfl rfl (by intro v hv; simp only [List.mem_cons, List.not_mem_nil, or_false] at hv; rcases hv with rfl | rfl | rfl <;> rfl) rfl rfl (fun b1 w4 hC5 hB2 => ?_)
   have hC6 := hC5.row0 (α := Int)
   have hC7 := hC6.triv (int_val (4))
   have hC8 := hC7.row1
   have hC9 := hC8.triv (int_val (1))
   have hC10 := hC9.row1
   have hC11 := hC10.triv (int_val (0))
   have hC12 := hC11.row1
   have hC13 := hC12.front 1 rfl
   dsimp only [List.eraseIdx, List.cons_append, List.nil_append, List.append_nil] at hC13
   have hC14 : Ctx Fs.flatten w0 w4 (Item.own (.slice (some ⟨b1, 0, none⟩) 3 3) ([0, 1, 4] : List Int) :: [Item.box pb1 [u1, (.int .i64 x2.2.2.1), (.int .i64 x2.2.2.2)], Item.own v1 (x1.1 : (List Int))]) := hC13.rowOwn (by simp [maxLen])
   obtain ⟨x6, hr4, hr3⟩ := bind_some hr3
   have hC15 := hC14.f1
   obtain ⟨Fs3, hH3, hn3, hF3, hO3, hb3⟩ := Ctx.lend2 (As := [Item.own (.slice (some ⟨b1, 0, none⟩) 3 3) ([0, 1, 4] : (List Int)), Item.own v1 (x1.1 : (List Int))]) [Item.box pb1 [u1, (.int .i64 x2.2.2.1), (.int .i64 x2.2.2.2)]] hC15
   refine WL_call Try.call55 rfl rfl (c_S_l1PickInt pb1 (a1.1, x2.2.2.1, x2.2.2.2) u1 (RO.lent g1 hC15.keep hF3) ([0, 1, 4]) (.slice (some ⟨b1, 0, none⟩) 3 3) (hO3 0 _ _ _ rfl) hH3 hn3 x6 hr4) ?_
   rintro _ w5 ⟨rfl, hq3⟩
   have hC16 : Ctx Fs.flatten w0 w5 [Item.box pb1 [u1, (.int .i64 x6.2.2.1), (.int .i64 x6.2.2.2)], Item.own (.slice (some ⟨b1, 0, none⟩) 3 3) ([0, 1, 4] : (List Int)), Item.own v1 (x1.1 : (List Int))] := hb3 _ _ hq3
   refine WL_buildSlice (vs := [(.int .i64 x6.1)]) hC16 Try.underlying26 ty3 rfl rfl rfl rfl (by intro v hv; simp only [List.mem_cons, List.not_mem_nil, or_false] at hv; rcases hv with rfl <;> rfl) rfl rfl (fun b2 w6 hC17 hB3 => ?_)
   have hC18 := hC17.row0 (α := Int)
   have hC19 := hC18.triv (int_val (x6.1))
   have hC20 := hC19.row1
   have hC21 := hC20.front 1 rfl
   dsimp only [List.eraseIdx, List.cons_append, List.nil_append, List.append_nil] at hC21
   have hC22 : Ctx Fs.flatten w0 w6 (Item.own (.slice (some ⟨b2, 0, none⟩) 1 1) ([x6.1] : List Int) :: [Item.box pb1 [u1, (.int .i64 x6.2.2.1), (.int .i64 x6.2.2.2)], Item.own (.slice (some ⟨b1, 0, none⟩) 3 3) ([0, 1, 4] : (List Int)), Item.own v1 (x1.1 : (List Int))]) := hC21.rowOwn (by simp [maxLen])
   obtain ⟨x7, hx1, hr3⟩ := bind_some hr3
   refine WL_append_flat (α := Int) hC22 3 rfl (hC22.ro 0 rfl) (Keep.refl _ _) Try.underlying26 ty3 rfl hx1 rfl rfl rfl (fun v3 w7 hC23 => ?_)
   try dsimp only [List.set] at hC23
   refine WL_assign rfl rfl ?_
   refine WL_nil ?_
   have hq4 := Option.some.inj hr3
   subst hq4
   have hC24 := hC23.f3
   have hC25 := hC24.f2
   have hC26 := hC25.h2
   refine nrm_sub (l' := [(3, v3)]) ⟨rfl, trivial⟩ ?_
   exact ⟨x6.2.2.1, x6.2.2.2, v3, x7, rfl, rfl, hC26⟩
  replace hr3 := ite_f hr3 hc1
  refine W_skip ?_
  have hq5 := Option.some.inj hr3
  subst hq5
  refine nrm_sub (l' := [(3, v1)]) ⟨rfl, trivial⟩ ?_
  exact ⟨x2.2.2.1, x2.2.2.2, v1, x1.1, rfl, rfl, hC3⟩
 rintro l1 _ w3 hs1 ⟨x3, x4, v2, x5, rfl, rfl, hC4⟩
 try dsimp only at hF
 refine nrm_sub' hs1 ?_
 clear hs1
 refine W_seq_reg ?_
 refine WL_move rfl rfl ?_
 refine WL_assign rfl rfl ?_
 refine WL_nil ?_
 refine W_ret ?_
 have hq6 := Option.some.inj hF
 subst hq6
 refine fn_ret1 rfl rfl ?_
 have hC27 := hC4.f1
 exact ⟨_, rfl, _, rfl, hC27⟩

theorem c_S_l5Draw {w0 : World} {Fs : List (List Nat)} (pb1 : Nat) (a1 : ((List UInt8) × Int × Int)) (u1 : Value) (g1 : RO Fs.flatten w0 u1 a1.1) (hH : Hold [Item.box pb1 [u1, (.int .i64 a1.2.1), (.int .i64 a1.2.2)]] w0 Fs) (hn : Fs.flatten.Nodup) (rr : ((List Int) × (List (Int × (List Int) × Int × Int × Int)) × (List (Int × (List Int))) × ((List UInt8) × Int × Int))) (hF : S.l5Draw a1 = some rr) :
 Calls Try.prog 40 [(ptr pb1 0)].toArray w0 fun e w' => ∃ v, e = .returned v ∧ ∃ q0 : Value, ∃ q1 : Value, ∃ q2 : Value, v = (.tuple #[q0, q1, q2]) ∧ Ctx Fs.flatten w0 w' [Item.own q0 (rr.1 : (List Int)), Item.own q1 (rr.2.1 : (List (Int × (List Int) × Int × Int × Int))), Item.own q2 (rr.2.2.1 : (List (Int × (List Int)))), Item.box pb1 [u1, (.int .i64 rr.2.2.2.2.1), (.int .i64 rr.2.2.2.2.2)]] := by
 refine calls_of_W Try.func40 rfl rfl ?_
 have hC0 := Ctx.startIn hH hn
 unfold S.l5Draw at hF
 refine W_seq_reg ?_
 refine WL_assign rfl rfl ?_
 refine WL_assign rfl rfl ?_
 refine WL_assign rfl rfl ?_
 refine WL_nil ?_
 refine W_seq_reg ?_
 refine WL_move rfl rfl ?_
 obtain ⟨x1, hr1, hF⟩ := bind_some hF
 obtain ⟨Fs1, hH1, hn1, hF1, hO1, hb1⟩ := Ctx.lend2 (As := []) [Item.box pb1 [u1, (.int .i64 a1.2.1), (.int .i64 a1.2.2)]] hC0
 refine WL_call Try.call47 rfl rfl (c_S_l2Schema pb1 (a1.1, a1.2.1, a1.2.2) u1 (RO.lent g1 hC0.keep hF1) hH1 hn1 x1 hr1) ?_
 rintro v1 w1 ⟨_, rfl, hq1⟩
 have hC1 : Ctx Fs.flatten w0 w1 [Item.own v1 (x1.1 : (List Int)), Item.box pb1 [u1, (.int .i64 x1.2.2.1), (.int .i64 x1.2.2.2)]] := hb1 _ _ hq1
 refine WL_assign rfl rfl ?_
 refine WL_nil ?_
 refine W_seq_reg ?_
 refine WL_move rfl rfl ?_
 refine WL_move rfl rfl ?_
 obtain ⟨x2, hr2, hF⟩ := bind_some hF
 have hC2 := hC1.f1
 obtain ⟨Fs2, hH2, hn2, hF2, hO2, hb2⟩ := Ctx.lend2 (As := [Item.own v1 (x1.1 : (List Int))]) [Item.box pb1 [u1, (.int .i64 x1.2.2.1), (.int .i64 x1.2.2.2)]] hC2
 refine WL_call Try.call48 rfl rfl (c_S_l5Methods pb1 (a1.1, x1.2.2.1, x1.2.2.2) u1 (RO.lent g1 hC2.keep hF2) x1.1 v1 (hO2 0 _ _ _ rfl) hH2 hn2 x2 hr2) ?_
 rintro v2 w2 ⟨_, rfl, hq2⟩
 have hC3 : Ctx Fs.flatten w0 w2 [Item.own v2 (x2.1 : (List (Int × (List Int) × Int × Int × Int))), Item.box pb1 [u1, (.int .i64 x2.2.2.1), (.int .i64 x2.2.2.2)], Item.own v1 (x1.1 : (List Int))] := hb2 _ _ hq2
 refine WL_assign rfl rfl ?_
 refine WL_nil ?_
 refine W_seq_reg ?_
 refine WL_move rfl rfl ?_
 refine WL_move rfl rfl ?_
 obtain ⟨x3, hr3, hF⟩ := bind_some hF
 have hC4 := hC3.f1
 obtain ⟨Fs3, hH3, hn3, hF3, hO3, hb3⟩ := Ctx.lend2 (As := [Item.own v2 (x2.1 : (List (Int × (List Int) × Int × Int × Int))), Item.own v1 (x1.1 : (List Int))]) [Item.box pb1 [u1, (.int .i64 x2.2.2.1), (.int .i64 x2.2.2.2)]] hC4
 refine WL_call Try.call49 rfl rfl (c_S_l2Facts pb1 (a1.1, x2.2.2.1, x2.2.2.2) u1 (RO.lent g1 hC4.keep hF3) x1.1 v1 (hO3 1 _ _ _ rfl) 8 hH3 hn3 x3 hr3) ?_
 rintro v3 w3 ⟨_, rfl, hq3⟩
 have hC5 : Ctx Fs.flatten w0 w3 [Item.own v3 (x3.1 : (List (Int × (List Int)))), Item.box pb1 [u1, (.int .i64 x3.2.2.1), (.int .i64 x3.2.2.2)], Item.own v2 (x2.1 : (List (Int × (List Int) × Int × Int × Int))), Item.own v1 (x1.1 : (List Int))] := hb3 _ _ hq3
 refine WL_assign rfl rfl ?_
 refine WL_nil ?_
 refine W_seq ?_
 refine W_seq_reg ?_
 refine WL_move rfl rfl ?_
 obtain ⟨x4, hr4, hF⟩ := bind_some hF
 have hC6 := hC5.f1
 obtain ⟨Fs4, hH4, hn4, hF4, hO4, hb4⟩ := Ctx.lend2 (As := [Item.own v3 (x3.1 : (List (Int × (List Int)))), Item.own v2 (x2.1 : (List (Int × (List Int) × Int × Int × Int))), Item.own v1 (x1.1 : (List Int))]) [Item.box pb1 [u1, (.int .i64 x3.2.2.1), (.int .i64 x3.2.2.2)]] hC6
 refine WL_call Try.call41 rfl rfl (c_S_l1Below pb1 (a1.1, x3.2.2.1, x3.2.2.2) u1 (RO.lent g1 hC6.keep hF4) 20 hH4 hn4 x4 hr4) ?_
 rintro _ w4 ⟨rfl, hq4⟩
 have hC7 : Ctx Fs.flatten w0 w4 [Item.box pb1 [u1, (.int .i64 x4.2.2.1), (.int .i64 x4.2.2.2)], Item.own v3 (x3.1 : (List (Int × (List Int)))), Item.own v2 (x2.1 : (List (Int × (List Int) × Int × Int × Int))), Item.own v1 (x1.1 : (List Int))] := hb4 _ _ hq4
 refine WL_nil ?_
 refine W_block ?_
 refine W_seq_reg ?_
 refine WL_eql rfl rfl rfl ?_
 refine WL_assign rfl rfl ?_
 refine WL_nil ?_
 obtain ⟨r1, hr5, hF⟩ := bind_some hF
 refine W_norm (fun l w => ∃ x5 : Int, ∃ x6 : Int, ∃ v4 : Value, ∃ x7 : (List Int), ∃ v5 : Value, ∃ x8 : (List (Int × (List Int) × Int × Int × Int)), ∃ v6 : Value, ∃ x9 : (List (Int × (List Int))), (x5, x6, x7, x8, x9) = r1 ∧ l = [(5, v4), (6, v5), (7, v6)] ∧ Ctx Fs.flatten w0 w [Item.box pb1 [u1, (.int .i64 x5), (.int .i64 x6)], Item.own v6 (x9 : (List (Int × (List Int)))), Item.own v5 (x8 : (List (Int × (List Int) × Int × Int × Int))), Item.own v4 (x7 : (List Int))]) ?_ ?_
 ·refine W_cond rfl (fun hc1 => ?_) (fun hc1 => ?_)
  ·replace hr5 := ite_t hr5 hc1
   refine W_reg ?_
   refine WL_move rfl rfl ?_
   refine WL_move rfl rfl ?_
   refine WL_move rfl rfl ?_
   obtain ⟨x10, hr6, hr5⟩ := bind_some hr5
   obtain ⟨Fs5, hH5, hn5, hF5, hO5, hb5⟩ := Ctx.lend2 (As := [Item.own v3 (x3.1 : (List (Int × (List Int)))), Item.own v2 (x2.1 : (List (Int × (List Int) × Int × Int × Int))), Item.own v1 (x1.1 : (List Int))]) [Item.box pb1 [u1, (.int .i64 x4.2.2.1), (.int .i64 x4.2.2.2)]] hC7
   refine WL_call Try.call50 rfl rfl (c_S_l5AnyMethod pb1 (a1.1, x4.2.2.1, x4.2.2.2) u1 (RO.lent g1 hC7.keep hF5) x1.1 v1 (hO5 2 _ _ _ rfl) hH5 hn5 x10 hr6) ?_
   rintro v7 w6 ⟨_, rfl, hq5⟩
   have hC9 : Ctx Fs.flatten w0 w6 [Item.own v7 (x10.1 : (Int × (List Int) × Int × Int × Int)), Item.box pb1 [u1, (.int .i64 x10.2.2.1), (.int .i64 x10.2.2.2)], Item.own v3 (x3.1 : (List (Int × (List Int)))), Item.own v2 (x2.1 : (List (Int × (List Int) × Int × Int × Int))), Item.own v1 (x1.1 : (List Int))] := hb5 _ _ hq5
   obtain ⟨v8, rfl, hC10⟩ := st47_own hC9
   refine WL_buildSlice (vs := [(.agg #[(.int .i64 x10.1.1), v8, (.int .i64 x10.1.2.2.1), (.int .i64 x10.1.2.2.2.1), (.int .i64 x10.1.2.2.2.2)])]) hC10 Try.underlying29 ty47 rfl rfl rfl rfl (by intro v hv; simp only [List.mem_cons, List.not_mem_nil, or_false] at hv; rcases hv with rfl <;> rfl) rfl rfl (fun b1 w7 hC11 hB2 => ?_)
   have hC12 := hC11.row0 (α := (Int × (List Int) × Int × Int × Int))
   have hC14 := hC12.f2
   have hC13 := own_st47 x10.1.1 v8 x10.1.2.1 x10.1.2.2.1 x10.1.2.2.2.1 x10.1.2.2.2.2 hC14
   have hC15 := hC13.row1
   have hC16 := hC15.front 1 rfl
   dsimp only [List.eraseIdx, List.cons_append, List.nil_append, List.append_nil] at hC16
   have hC17 : Ctx Fs.flatten w0 w7 (Item.own (.slice (some ⟨b1, 0, none⟩) 1 1) ([(x10.1.1, x10.1.2.1, x10.1.2.2.1, x10.1.2.2.2.1, x10.1.2.2.2.2)] : List (Int × (List Int) × Int × Int × Int)) :: [Item.box pb1 [u1, (.int .i64 x10.2.2.1), (.int .i64 x10.2.2.2)], Item.own v3 (x3.1 : (List (Int × (List Int)))), Item.own v2 (x2.1 : (List (Int × (List Int) × Int × Int × Int))), Item.own v1 (x1.1 : (List Int))]) := hC16.rowOwn (by simp [maxLen])
   obtain ⟨x11, hx1, hr5⟩ := bind_some hr5
   refine WL_append_head hC17 2 rfl Try.underlying29 ty47 rfl hx1 rfl rfl rfl (fun v9 w9 hC18 => ?_)
   try dsimp only [List.set] at hC18
   refine WL_assign rfl rfl ?_
   refine WL_nil ?_
   have hq6 := Option.some.inj hr5
   subst hq6
   refine nrm_sub (l' := [(5, v1), (6, v9), (7, v3)]) ⟨rfl, rfl, rfl, trivial⟩ ?_
   exact ⟨x10.2.2.1, x10.2.2.2, v1, x1.1, v9, x11, v3, x3.1, rfl, rfl, hC18⟩
  replace hr5 := ite_f hr5 hc1
  refine W_seq_reg ?_
  refine WL_eql rfl rfl rfl ?_
  refine WL_assign rfl rfl ?_
  refine WL_nil ?_
  obtain ⟨r2, hr7, hr5⟩ := bind_some hr5
  refine W_norm (fun l w => ∃ x12 : Int, ∃ x13 : Int, ∃ v10 : Value, ∃ x14 : (List Int), ∃ v11 : Value, ∃ x15 : (List (Int × (List Int))), (x12, x13, x14, x15) = r2 ∧ l = [(5, v10), (6, v2), (7, v11)] ∧ Ctx Fs.flatten w0 w [Item.box pb1 [u1, (.int .i64 x12), (.int .i64 x13)], Item.own v11 (x15 : (List (Int × (List Int)))), Item.own v2 (x2.1 : (List (Int × (List Int) × Int × Int × Int))), Item.own v10 (x14 : (List Int))]) ?_ ?_
  ·refine W_cond rfl (fun hc2 => ?_) (fun hc2 => ?_)
   ·replace hr7 := ite_t hr7 hc2
    refine W_reg ?_
    refine WL_move rfl rfl ?_
    refine WL_move rfl rfl ?_
    obtain ⟨x16, hr8, hr7⟩ := bind_some hr7
    obtain ⟨Fs6, hH6, hn6, hF6, hO6, hb6⟩ := Ctx.lend2 (As := [Item.own v3 (x3.1 : (List (Int × (List Int)))), Item.own v2 (x2.1 : (List (Int × (List Int) × Int × Int × Int))), Item.own v1 (x1.1 : (List Int))]) [Item.box pb1 [u1, (.int .i64 x4.2.2.1), (.int .i64 x4.2.2.2)]] hC7
    refine WL_call Try.call51 rfl rfl (c_S_l2AnyFacts pb1 (a1.1, x4.2.2.1, x4.2.2.2) u1 (RO.lent g1 hC7.keep hF6) x1.1 v1 (hO6 2 _ _ _ rfl) hH6 hn6 x16 hr8) ?_
    rintro v12 w11 ⟨_, rfl, hq7⟩
    have hC21 : Ctx Fs.flatten w0 w11 [Item.own v12 (x16.1 : (List (Int × (List Int)))), Item.box pb1 [u1, (.int .i64 x16.2.2.1), (.int .i64 x16.2.2.2)], Item.own v3 (x3.1 : (List (Int × (List Int)))), Item.own v2 (x2.1 : (List (Int × (List Int) × Int × Int × Int))), Item.own v1 (x1.1 : (List Int))] := hb6 _ _ hq7
    refine WL_assign rfl rfl ?_
    refine WL_nil ?_
    have hq8 := Option.some.inj hr7
    subst hq8
    have hC22 := hC21.f4
    have hC23 := hC22.f4
    have hC24 := hC23.f2
    have hC25 := hC24.f3
    have hC26 := hC25.h4
    refine nrm_sub (l' := [(5, v1), (6, v2), (7, v12)]) ⟨rfl, rfl, rfl, trivial⟩ ?_
    exact ⟨x16.2.2.1, x16.2.2.2, v1, x1.1, v12, x16.1, rfl, rfl, hC26⟩
   replace hr7 := ite_f hr7 hc2
   refine W_seq_reg ?_
   refine WL_eql rfl rfl rfl ?_
   refine WL_assign rfl rfl ?_
   refine WL_nil ?_
   obtain ⟨r3, hr9, hr7⟩ := bind_some hr7
   refine W_norm (fun l w => ∃ x17 : Int, ∃ x18 : Int, ∃ v13 : Value, ∃ x19 : (List Int), (x17, x18, x19) = r3 ∧ l = [(5, v13), (6, v2), (7, v3)] ∧ Ctx Fs.flatten w0 w [Item.box pb1 [u1, (.int .i64 x17), (.int .i64 x18)], Item.own v3 (x3.1 : (List (Int × (List Int)))), Item.own v2 (x2.1 : (List (Int × (List Int) × Int × Int × Int))), Item.own v13 (x19 : (List Int))]) ?_ ?_
   ·refine W_cond rfl (fun hc3 => ?_) (fun hc3 => ?_)
    ·replace hr9 := ite_t hr9 hc3
     refine W_reg ?_
     refine WL_move rfl rfl ?_
     obtain ⟨x20, hr10, hr9⟩ := bind_some hr9
     obtain ⟨Fs7, hH7, hn7, hF7, hO7, hb7⟩ := Ctx.lend2 (As := [Item.own v3 (x3.1 : (List (Int × (List Int)))), Item.own v2 (x2.1 : (List (Int × (List Int) × Int × Int × Int))), Item.own v1 (x1.1 : (List Int))]) [Item.box pb1 [u1, (.int .i64 x4.2.2.1), (.int .i64 x4.2.2.2)]] hC7
     refine WL_call Try.call52 rfl rfl (c_S_l2AnySchema pb1 (a1.1, x4.2.2.1, x4.2.2.2) u1 (RO.lent g1 hC7.keep hF7) hH7 hn7 x20 hr10) ?_
     rintro v14 w13 ⟨_, rfl, hq9⟩
     have hC28 : Ctx Fs.flatten w0 w13 [Item.own v14 (x20.1 : (List Int)), Item.box pb1 [u1, (.int .i64 x20.2.2.1), (.int .i64 x20.2.2.2)], Item.own v3 (x3.1 : (List (Int × (List Int)))), Item.own v2 (x2.1 : (List (Int × (List Int) × Int × Int × Int))), Item.own v1 (x1.1 : (List Int))] := hb7 _ _ hq9
     refine WL_assign rfl rfl ?_
     refine WL_nil ?_
     have hq10 := Option.some.inj hr9
     subst hq10
     have hC29 := hC28.f3
     have hC30 := hC29.f3
     have hC31 := hC30.f3
     have hC32 := hC31.h4
     refine nrm_sub (l' := [(5, v14), (6, v2), (7, v3)]) ⟨rfl, rfl, rfl, trivial⟩ ?_
     exact ⟨x20.2.2.1, x20.2.2.2, v14, x20.1, rfl, rfl, hC32⟩
    replace hr9 := ite_f hr9 hc3
    refine W_skip ?_
    have hq11 := Option.some.inj hr9
    subst hq11
    refine nrm_sub (l' := [(5, v1), (6, v2), (7, v3)]) ⟨rfl, rfl, rfl, trivial⟩ ?_
    exact ⟨x4.2.2.1, x4.2.2.2, v1, x1.1, rfl, rfl, hC7⟩
   rintro l3 _ w12 hs3 ⟨x17, x18, v13, x19, rfl, rfl, hC27⟩
   try dsimp only at hr7
   have hq12 := Option.some.inj hr7
   subst hq12
   refine nrm_subs (l2 := [(5, v13), (6, v2), (7, v3)]) hs3 ⟨rfl, rfl, rfl, trivial⟩ ?_
   exact ⟨x17, x18, v13, x19, v3, x3.1, rfl, rfl, hC27⟩
  rintro l2 _ w10 hs2 ⟨x12, x13, v10, x14, v11, x15, rfl, rfl, hC20⟩
  try dsimp only at hr5
  have hq13 := Option.some.inj hr5
  subst hq13
  refine nrm_subs (l2 := [(5, v10), (6, v2), (7, v11)]) hs2 ⟨rfl, rfl, rfl, trivial⟩ ?_
  exact ⟨x12, x13, v10, x14, v2, x2.1, v11, x15, rfl, rfl, hC20⟩
 rintro l1 _ w5 hs1 ⟨x5, x6, v4, x7, v5, x8, v6, x9, rfl, rfl, hC8⟩
 try dsimp only at hF
 refine blk_normal ?_
 refine nrm_sub' hs1 ?_
 clear hs1
 refine W_seq_reg ?_
 refine WL_move rfl rfl ?_
 refine WL_move rfl rfl ?_
 refine WL_move rfl rfl ?_
 refine WL_assign rfl rfl ?_
 refine WL_assign rfl rfl ?_
 refine WL_assign rfl rfl ?_
 refine WL_nil ?_
 refine W_ret ?_
 have hq14 := Option.some.inj hF
 subst hq14
 refine fn_ret3 rfl rfl rfl rfl ?_
 have hC33 := hC8.f1
 have hC34 := hC33.f2
 have hC35 := hC34.f3
 exact ⟨_, rfl, _, _, _, rfl, hC35⟩

theorem c_S_l5Access {w0 : World} {Fs : List (List Nat)} (pb1 : Nat) (a1 : ((List UInt8) × Int × Int)) (u1 : Value) (g1 : RO Fs.flatten w0 u1 a1.1) (a2 : (List (Int × (List Int) × Int × Int × Int))) (u2 : Value) (g2 : RO Fs.flatten w0 u2 a2) (hH : Hold [Item.box pb1 [u1, (.int .i64 a1.2.1), (.int .i64 a1.2.2)]] w0 Fs) (hn : Fs.flatten.Nodup) (rr : ((Int × (List Int)) × ((List UInt8) × Int × Int))) (hF : S.l5Access a1 a2 = some rr) :
 Calls Try.prog 54 [(ptr pb1 0), u2].toArray w0 fun e w' => ∃ v, e = .returned v ∧ ∃ q0 : Value, v = q0 ∧ Ctx Fs.flatten w0 w' [Item.own q0 (rr.1 : (Int × (List Int))), Item.box pb1 [u1, (.int .i64 rr.2.2.1), (.int .i64 rr.2.2.2)]] := by
 refine calls_of_W Try.func54 rfl rfl ?_
 have hC0 := Ctx.startIn hH hn
 unfold S.l5Access at hF
 refine W_seq_reg ?_
 refine WL_allocK hC0 zero45 rfl rfl (fun b1 w1 hC1 hB1 hN1 => ?_)
 refine WL_nil ?_
 refine W_seq ?_
 refine W_seq_reg ?_
 refine WL_move rfl rfl ?_
 refine WL_len Try.underlying29 g2 rfl rfl ?_
 refine WL_eql rfl rfl rfl ?_
 refine WL_nil ?_
 refine W_cond rfl (fun hc1 => ?_) (fun hc1 => ?_)
 ·replace hF := ite_t hF hc1
  refine W_seq_reg ?_
  refine WL_build (vs := []) rfl rfl rfl built45 ?_
  refine WL_store_box_aggK (cs' := [(.int .i64 0), (.slice none 0 0)]) (new := [(.int .i64 0), (.slice none 0 0)]) hC1 0 rfl rfl (by intro v hv; simp only [List.mem_cons, List.not_mem_nil, or_false] at hv; rcases hv with rfl | rfl; exact rfl; exact rfl) rfl Try.sizeOf45 rfl rfl (fun w2 hC2 hKp1 => ?_)
  try dsimp only [List.set] at hC2
  have hk1 := Keep.over (Keep.of hB1) hN1 hKp1
  refine WL_nil ?_
  refine W_ret ?_
  refine nrm_ret ?_
  have hq1 := Option.some.inj hF
  subst hq1
  refine fn_retG1 rfl (rv_cell_agg (cs' := [(.int .i64 0), (.slice none 0 0)]) hC2 (i := 0) rfl rfl rfl Try.isAgg45 Try.sizeOf45 rfl) ?_
  have hC3 := hC2.f1
  have hC5 := hC3.triv (nil_val (α := Int))
  have hC4 := own_st45 0 (.slice none 0 0) ([]) hC5
  have hC6 := hC4.h2
  exact ⟨_, rfl, _, rfl, hC6⟩
 replace hF := ite_f hF hc1
 refine W_skip ?_
 refine nrm_normal ?_
 refine W_seq_reg ?_
 refine WL_move rfl rfl ?_
 refine WL_move rfl rfl ?_
 refine WL_len Try.underlying29 g2 rfl rfl ?_
 obtain ⟨x1, hr1, hF⟩ := bind_some hF
 have hC7 := hC1.f1
 obtain ⟨Fs1, hH1, hn1, hF1, hO1, hb1⟩ := Ctx.lend2 (As := [Item.box b1 [(.int .i64 0), (.slice none 0 0)]]) [Item.box pb1 [u1, (.int .i64 a1.2.1), (.int .i64 a1.2.2)]] hC7
 refine WL_call Try.call41 rfl rfl (c_S_l1Below pb1 (a1.1, a1.2.1, a1.2.2) u1 (RO.lent g1 hC7.keep hF1) (List.length a2 : Int) hH1 hn1 x1 hr1) ?_
 rintro _ w3 ⟨rfl, hq2⟩
 have hC8 : Ctx Fs.flatten w0 w3 [Item.box pb1 [u1, (.int .i64 x1.2.2.1), (.int .i64 x1.2.2.2)], Item.box b1 [(.int .i64 0), (.slice none 0 0)]] := hb1 _ _ hq2
 refine WL_build (vs := [(0, (.int .i64 x1.1))]) rfl rfl rfl (built45_0 rfl) ?_
 refine WL_allocK hC8 zero45 rfl rfl (fun b2 w4 hC9 hB2 hN2 => ?_)
 refine WL_store_box_aggK (cs' := [(.int .i64 x1.1), (.slice none 0 0)]) (new := [(.int .i64 x1.1), (.slice none 0 0)]) hC9 0 rfl rfl (by intro v hv; simp only [List.mem_cons, List.not_mem_nil, or_false] at hv; rcases hv with rfl | rfl; exact rfl; exact rfl) rfl Try.sizeOf45 rfl rfl (fun w5 hC10 hKp2 => ?_)
 try dsimp only [List.set] at hC10
 have hk2 := Keep.over (Keep.of hB2) hN2 hKp2
 refine WL_nil ?_
 refine W_seq ?_
 refine W_seq_reg ?_
 refine WL_assign rfl rfl ?_
 refine WL_nil ?_
 obtain ⟨r1, hr2, hF⟩ := bind_some hF
 refine W_norm (fun l w => ∃ x7 : Int, ∃ v2 : Value, ∃ x8 : (List Int), ∃ x9 : Int, ∃ x10 : Int, (x7, x8, x9, x10) = r1 ∧ l = [(4, (ptr b1 0)), (5, (ptr b2 0))] ∧ Ctx Fs.flatten w0 w [Item.own v2 (x8 : (List Int)), Item.box b2 [(.int .i64 x7), v2], Item.box pb1 [u1, (.int .i64 x9), (.int .i64 x10)], Item.box b1 [(.int .i64 0), (.slice none 0 0)]]) ?_ ?_
 ·refine W_block ?_
  have hC27 := hC10.triv (nil_val (α := Int))
  refine W.sub (l' := [(0, (ptr pb1 0)), (1, u2), (4, (ptr b1 0)), (5, (ptr b2 0)), (6, (.int .i64 0))]) ?_ ⟨rfl, rfl, rfl, rfl, rfl, trivial⟩
  refine W_loop (fun k l w => ∃ x2 : Int, ∃ v1 : Value, ∃ x3 : (List Int), ∃ x4 : Int, ∃ x5 : Int, ∃ x6 : Int, l = [(0, (ptr pb1 0)), (1, u2), (4, (ptr b1 0)), (5, (ptr b2 0)), (6, (.int .i64 x6))] ∧ Ctx Fs.flatten w0 w [Item.own v1 (x3 : (List Int)), Item.box b2 [(.int .i64 x2), v1], Item.box pb1 [u1, (.int .i64 x4), (.int .i64 x5)], Item.box b1 [(.int .i64 0), (.slice none 0 0)]] ∧ S.l5Access_l1 a2 a1 k x2 x3 x4 x5 x6 = some r1) FUEL ⟨x1.1, (.slice none 0 0), [], x1.2.2.1, x1.2.2.2, 0, rfl, hC27, hr2⟩ ?_
  clear hr2
  rintro k1 _ w6 ⟨x2, v1, x3, x4, x5, x6, rfl, hC11, hL1⟩
  cases k1 with
  | zero => rw [S.l5Access_l1] at hL1; cases hL1
  | succ k1 =>
   rw [S.l5Access_l1] at hL1
   refine W_seq ?_
   refine W_seq_reg ?_
   refine WL_move rfl rfl ?_
   refine WL_move rfl rfl ?_
   refine WL_field Try.underlying45 rfl rfl (fun w => ⟨_, Try.sizeOf3 w⟩) rfl rfl ?_
   refine WL_load_box hC11 1 rfl rfl Try.isAgg3 rfl rfl ?_
   obtain ⟨x11, hx1, hL1⟩ := bind_some hL1
   refine WL_index Try.underlying29 ty47 g2 hx1 rfl rfl rfl (fun b3 o1 h1 => ?_)
   refine WL_field Try.underlying47 rfl rfl (fun w => ⟨_, Try.sizeOf26 w⟩) rfl rfl ?_
   refine WL_load ty26 h1.snd.fst hC11.keep rfl rfl (fun v3 h2 => ?_)
   refine WL_len Try.underlying26 h2 rfl rfl ?_
   refine WL_lss rfl rfl rfl ?_
   refine WL_nil ?_
   refine W_cond rfl (fun hc2 => ?_) (fun hc2 => ?_)
   ·replace hL1 := ite_t hL1 hc2
    refine W_skip ?_
    refine nrm_normal ?_
    refine W_seq ?_
    refine W_block ?_
    refine W_seq_reg ?_
    refine WL_move rfl rfl ?_
    obtain ⟨x12, hr3, hL1⟩ := bind_some hL1
    have hC12 := hC11.f2
    obtain ⟨Fs2, hH2, hn2, hF2, hO2, hb2⟩ := Ctx.lend2 (As := [Item.own v1 (x3 : (List Int)), Item.box b2 [(.int .i64 x2), v1], Item.box b1 [(.int .i64 0), (.slice none 0 0)]]) [Item.box pb1 [u1, (.int .i64 x4), (.int .i64 x5)]] hC12
    refine WL_call Try.call41 rfl rfl (c_S_l1Below pb1 (a1.1, x4, x5) u1 (RO.lent g1 hC12.keep hF2) 4 hH2 hn2 x12 hr3) ?_
    rintro _ w7 ⟨rfl, hq3⟩
    have hC13 : Ctx Fs.flatten w0 w7 [Item.box pb1 [u1, (.int .i64 x12.2.2.1), (.int .i64 x12.2.2.2)], Item.own v1 (x3 : (List Int)), Item.box b2 [(.int .i64 x2), v1], Item.box b1 [(.int .i64 0), (.slice none 0 0)]] := hb2 _ _ hq3
    refine WL_assign rfl rfl ?_
    refine WL_nil ?_
    refine W_reg ?_
    refine WL_field Try.underlying45 rfl rfl (fun w => ⟨_, Try.sizeOf26 w⟩) rfl rfl ?_
    refine WL_load_box hC13 2 rfl rfl Try.isAgg26 rfl rfl ?_
    refine WL_move rfl rfl ?_
    refine WL_buildSlice (vs := [(.int .i64 x12.1)]) hC13 Try.underlying26 ty3 rfl rfl rfl rfl (by intro v hv; simp only [List.mem_cons, List.not_mem_nil, or_false] at hv; rcases hv with rfl <;> rfl) rfl rfl (fun b4 w9 hC14 hB4 => ?_)
    have hC15 := hC14.row0 (α := Int)
    have hC16 := hC15.triv (int_val (x12.1))
    have hC17 := hC16.row1
    have hC18 := hC17.front 1 rfl
    dsimp only [List.eraseIdx, List.cons_append, List.nil_append, List.append_nil] at hC18
    have hC19 : Ctx Fs.flatten w0 w9 (Item.own (.slice (some ⟨b4, 0, none⟩) 1 1) ([x12.1] : List Int) :: [Item.box pb1 [u1, (.int .i64 x12.2.2.1), (.int .i64 x12.2.2.2)], Item.own v1 (x3 : (List Int)), Item.box b2 [(.int .i64 x2), v1], Item.box b1 [(.int .i64 0), (.slice none 0 0)]]) := hC18.rowOwn (by simp [maxLen])
    obtain ⟨x13, hx2, hL1⟩ := bind_some hL1
    refine WL_append_flat (α := Int) hC19 2 rfl (hC19.ro 0 rfl) (Keep.refl _ _) Try.underlying26 ty3 rfl hx2 rfl rfl rfl (fun v4 w10 hC20 => ?_)
    try dsimp only [List.set] at hC20
    refine WL_field Try.underlying45 rfl rfl (fun w => ⟨_, Try.sizeOf26 w⟩) rfl rfl ?_
    refine WL_store_boxK (cs' := [(.int .i64 x2), v4]) hC20 3 rfl rfl (ro_one (hC20.ro 2 rfl)) rfl Try.sizeOf26 rfl rfl (fun w11 hC21 hKp3 => ?_)
    try dsimp only [List.set] at hC21
    refine WL_nil ?_
    refine blk_normal ?_
    refine nrm_normal ?_
    refine W_reg ?_
    refine WL_move rfl rfl ?_
    refine WL_add rfl rfl rfl ?_
    refine WL_assign rfl rfl ?_
    refine WL_nil ?_
    have hC22 := hC21.f4
    have hC23 := hC22.f2
    have hC24 := hC23.f4
    have hC25 := hC24.f4
    have hC26 := hC25.h4
    refine nrm_sub (l' := [(0, (ptr pb1 0)), (1, u2), (4, (ptr b1 0)), (5, (ptr b2 0)), (6, (.int .i64 (w64 (x6 + 1))))]) ⟨rfl, rfl, rfl, rfl, rfl, trivial⟩ ?_
    exact ⟨k1, Nat.lt_succ_self _, x2, v4, x13, x12.2.2.1, x12.2.2.2, w64 (x6 + 1), rfl, hC26, hL1⟩
   replace hL1 := ite_f hL1 hc2
   refine W_exit ?_
   refine nrm_exit ?_
   refine nrm_exit ?_
   refine blk_exit ?_
   have hq4 := Option.some.inj hL1
   subst hq4
   refine nrm_sub (l' := [(4, (ptr b1 0)), (5, (ptr b2 0))]) ⟨rfl, rfl, trivial⟩ ?_
   exact ⟨x2, v1, x3, x4, x5, rfl, rfl, hC11⟩
 rintro l2 _ w12 hs2 ⟨x7, v2, x8, x9, x10, rfl, rfl, hC28⟩
 try dsimp only at hF
 refine nrm_sub' hs2 ?_
 clear hs2
 refine W_seq_reg ?_
 refine WL_load_box_agg [(.int .i64 x7), v2] hC28 1 rfl rfl rfl Try.isAgg45 Try.sizeOf45 rfl rfl ?_
 refine WL_store_box_aggK (cs' := [(.int .i64 x7), v2]) (new := [(.int .i64 x7), v2]) hC28 3 rfl rfl (by intro v hv; simp only [List.mem_cons, List.not_mem_nil, or_false] at hv; rcases hv with rfl | rfl; exact rfl; exact (ro_one (hC28.ro 0 rfl))) rfl Try.sizeOf45 rfl rfl (fun w13 hC29 hKp4 => ?_)
 try dsimp only [List.set] at hC29
 refine WL_nil ?_
 refine W_ret ?_
 have hq5 := Option.some.inj hF
 subst hq5
 refine fn_retG1 rfl (rv_cell_agg (cs' := [(.int .i64 x7), v2]) hC29 (i := 3) rfl rfl rfl Try.isAgg45 Try.sizeOf45 rfl) ?_
 have hC30 := hC29.f2
 have hC32 := hC30.f1
 have hC31 := own_st45 x7 v2 x8 hC32
 have hC33 := hC31.h2
 exact ⟨_, rfl, _, rfl, hC33⟩

theorem c_S_l5AnyAccess {w0 : World} {Fs : List (List Nat)} (pb1 : Nat) (a1 : ((List UInt8) × Int × Int)) (u1 : Value) (g1 : RO Fs.flatten w0 u1 a1.1) (a2 : (List (Int × (List Int) × Int × Int × Int))) (u2 : Value) (g2 : RO Fs.flatten w0 u2 a2) (hH : Hold [Item.box pb1 [u1, (.int .i64 a1.2.1), (.int .i64 a1.2.2)]] w0 Fs) (hn : Fs.flatten.Nodup) (rr : ((Int × (List Int)) × ((List UInt8) × Int × Int))) (hF : S.l5AnyAccess a1 a2 = some rr) :
 Calls Try.prog 42 [(ptr pb1 0), u2].toArray w0 fun e w' => ∃ v, e = .returned v ∧ ∃ q0 : Value, v = q0 ∧ Ctx Fs.flatten w0 w' [Item.own q0 (rr.1 : (Int × (List Int))), Item.box pb1 [u1, (.int .i64 rr.2.2.1), (.int .i64 rr.2.2.2)]] := by
 refine calls_of_W Try.func42 rfl rfl ?_
 have hC0 := Ctx.startIn hH hn
 unfold S.l5AnyAccess at hF
 refine W_seq_reg ?_
 refine WL_allocK hC0 zero45 rfl rfl (fun b1 w1 hC1 hB1 hN1 => ?_)
 refine WL_nil ?_
 refine W_seq_reg ?_
 refine WL_move rfl rfl ?_
 refine WL_move rfl rfl ?_
 obtain ⟨x1, hr1, hF⟩ := bind_some hF
 have hC2 := hC1.f1
 obtain ⟨Fs1, hH1, hn1, hF1, hO1, hb1⟩ := Ctx.lend2 (As := [Item.box b1 [(.int .i64 0), (.slice none 0 0)]]) [Item.box pb1 [u1, (.int .i64 a1.2.1), (.int .i64 a1.2.2)]] hC2
 refine WL_call Try.call54 rfl rfl (c_S_l5Access pb1 (a1.1, a1.2.1, a1.2.2) u1 (RO.lent g1 hC2.keep hF1) a2 u2 (RO.lent g2 hC2.keep hF1) hH1 hn1 x1 hr1) ?_
 rintro v1 w2 ⟨_, rfl, hq1⟩
 have hC3 : Ctx Fs.flatten w0 w2 [Item.own v1 (x1.1 : (Int × (List Int))), Item.box pb1 [u1, (.int .i64 x1.2.2.1), (.int .i64 x1.2.2.2)], Item.box b1 [(.int .i64 0), (.slice none 0 0)]] := hb1 _ _ hq1
 obtain ⟨v2, rfl, hC4⟩ := st45_own hC3
 refine WL_allocK hC4 zero45 rfl rfl (fun b2 w3 hC5 hB2 hN2 => ?_)
 refine WL_store_box_aggK (cs' := [(.int .i64 x1.1.1), v2]) (new := [(.int .i64 x1.1.1), v2]) hC5 0 rfl rfl (by intro v hv; simp only [List.mem_cons, List.not_mem_nil, or_false] at hv; rcases hv with rfl | rfl; exact rfl; exact (ro_one (hC5.ro 1 rfl))) rfl Try.sizeOf45 rfl rfl (fun w4 hC6 hKp1 => ?_)
 try dsimp only [List.set] at hC6
 have hk1 := Keep.over (Keep.of hB2) hN2 hKp1
 refine WL_nil ?_
 refine W_seq ?_
 refine W_seq_reg ?_
 refine WL_move rfl rfl ?_
 obtain ⟨x2, hr2, hF⟩ := bind_some hF
 have hC7 := hC6.f2
 obtain ⟨Fs2, hH2, hn2, hF2, hO2, hb2⟩ := Ctx.lend2 (As := [Item.box b2 [(.int .i64 x1.1.1), v2], Item.own v2 (x1.1.2 : (List Int)), Item.box b1 [(.int .i64 0), (.slice none 0 0)]]) [Item.box pb1 [u1, (.int .i64 x1.2.2.1), (.int .i64 x1.2.2.2)]] hC7
 refine WL_call Try.call41 rfl rfl (c_S_l1Below pb1 (a1.1, x1.2.2.1, x1.2.2.2) u1 (RO.lent g1 hC7.keep hF2) 12 hH2 hn2 x2 hr2) ?_
 rintro _ w5 ⟨rfl, hq2⟩
 have hC8 : Ctx Fs.flatten w0 w5 [Item.box pb1 [u1, (.int .i64 x2.2.2.1), (.int .i64 x2.2.2.2)], Item.box b2 [(.int .i64 x1.1.1), v2], Item.own v2 (x1.1.2 : (List Int)), Item.box b1 [(.int .i64 0), (.slice none 0 0)]] := hb2 _ _ hq2
 refine WL_nil ?_
 refine W_block ?_
 refine W_seq_reg ?_
 refine WL_eql rfl rfl rfl ?_
 refine WL_assign rfl rfl ?_
 refine WL_nil ?_
 obtain ⟨r1, hr3, hF⟩ := bind_some hF
 refine W_norm (fun l w => ∃ x3 : Int, ∃ x4 : Int, ∃ x5 : Int, ∃ v3 : Value, ∃ x6 : (List Int), (x3, x4, x5, x6) = r1 ∧ l = [(4, (ptr b1 0)), (5, (ptr b2 0))] ∧ Ctx Fs.flatten w0 w [Item.box pb1 [u1, (.int .i64 x3), (.int .i64 x4)], Item.box b2 [(.int .i64 x5), v3], Item.own v3 (x6 : (List Int)), Item.box b1 [(.int .i64 0), (.slice none 0 0)]]) ?_ ?_
 ·refine W_cond rfl (fun hc1 => ?_) (fun hc1 => ?_)
  ·replace hr3 := ite_t hr3 hc1
   refine W_reg ?_
   refine WL_move rfl rfl ?_
   obtain ⟨x7, hr4, hr3⟩ := bind_some hr3
   obtain ⟨Fs3, hH3, hn3, hF3, hO3, hb3⟩ := Ctx.lend2 (As := [Item.box b2 [(.int .i64 x1.1.1), v2], Item.own v2 (x1.1.2 : (List Int)), Item.box b1 [(.int .i64 0), (.slice none 0 0)]]) [Item.box pb1 [u1, (.int .i64 x2.2.2.1), (.int .i64 x2.2.2.2)]] hC8
   refine WL_call Try.call41 rfl rfl (c_S_l1Below pb1 (a1.1, x2.2.2.1, x2.2.2.2) u1 (RO.lent g1 hC8.keep hF3) 7 hH3 hn3 x7 hr4) ?_
   rintro _ w7 ⟨rfl, hq3⟩
   have hC10 : Ctx Fs.flatten w0 w7 [Item.box pb1 [u1, (.int .i64 x7.2.2.1), (.int .i64 x7.2.2.2)], Item.box b2 [(.int .i64 x1.1.1), v2], Item.own v2 (x1.1.2 : (List Int)), Item.box b1 [(.int .i64 0), (.slice none 0 0)]] := hb3 _ _ hq3
   refine WL_sub rfl rfl rfl ?_
   refine WL_field Try.underlying45 rfl rfl (fun w => ⟨_, Try.sizeOf3 w⟩) rfl rfl ?_
   refine WL_store_boxK (cs' := [(.int .i64 (w64 (x7.1 - 1))), v2]) hC10 1 rfl rfl rfl rfl Try.sizeOf3 rfl rfl (fun w9 hC11 hKp2 => ?_)
   try dsimp only [List.set] at hC11
   refine WL_nil ?_
   have hq4 := Option.some.inj hr3
   subst hq4
   refine nrm_sub (l' := [(4, (ptr b1 0)), (5, (ptr b2 0))]) ⟨rfl, rfl, trivial⟩ ?_
   exact ⟨x7.2.2.1, x7.2.2.2, w64 (x7.1 - 1), v2, x1.1.2, rfl, rfl, hC11⟩
  replace hr3 := ite_f hr3 hc1
  refine W_seq_reg ?_
  refine WL_eql rfl rfl rfl ?_
  refine WL_assign rfl rfl ?_
  refine WL_nil ?_
  obtain ⟨r2, hr5, hr3⟩ := bind_some hr3
  refine W_norm (fun l w => ∃ x8 : Int, ∃ x9 : Int, ∃ x10 : Int, ∃ v4 : Value, ∃ x11 : (List Int), (x8, x9, x10, x11) = r2 ∧ l = [(4, (ptr b1 0)), (5, (ptr b2 0))] ∧ Ctx Fs.flatten w0 w [Item.box pb1 [u1, (.int .i64 x8), (.int .i64 x9)], Item.box b2 [(.int .i64 x10), v4], Item.own v4 (x11 : (List Int)), Item.box b1 [(.int .i64 0), (.slice none 0 0)]]) ?_ ?_
  ·refine W_cond rfl (fun hc2 => ?_) (fun hc2 => ?_)
   ·replace hr5 := ite_t hr5 hc2
    obtain ⟨r3, hr6, hr5⟩ := bind_some hr5
    refine W_norm (fun l w => ∃ x12 : Int, ∃ x13 : Int, ∃ x14 : Int, ∃ v5 : Value, ∃ x15 : (List Int), (x12, x13, x14, x15) = r3 ∧ l = [(4, (ptr b1 0)), (5, (ptr b2 0))] ∧ Ctx Fs.flatten w0 w [Item.box pb1 [u1, (.int .i64 x12), (.int .i64 x13)], Item.box b2 [(.int .i64 x14), v5], Item.own v5 (x15 : (List Int)), Item.box b1 [(.int .i64 0), (.slice none 0 0)]]) ?_ ?_
    ·refine W_drawn 9 rfl hmix (fun w12 hB6 => ?_)
     have hC14 := hC8.grow hB6
     refine WA_tk 0 (by kernel_rfl) rfl rfl (fl_field Try.underlying45 rfl rfl (fun w => ⟨_, Try.sizeOf26 w⟩) rfl) ?_
     refine WL_field Try.underlying45 rfl rfl (fun w => ⟨_, Try.sizeOf26 w⟩) rfl rfl ?_
     refine WL_nil ?_
     refine WA_tk 2 (by kernel_rfl) rfl rfl (fl_move rfl) ?_
     refine WL_move rfl rfl ?_
     refine WL_nil ?_
     refine WA_all2 (i := 1) (j := 3) (by kernel_rfl) rfl rfl ?_ ?_
     ·refine WL_load_box hC14 1 rfl rfl Try.isAgg26 rfl rfl ?_
      refine WL_nil ?_
      refine WA_one 3 (by kernel_rfl) rfl ?_
      refine WL_buildSlice (vs := [(.int .i64 (-1)), (.int .i64 3), (.int .i64 10)]) hC14 Try.underlying26 ty3 rfl rfl rfl rfl (by intro v hv; simp only [List.mem_cons, List.not_mem_nil, or_false] at hv; rcases hv with rfl | rfl | rfl <;> rfl) rfl rfl (fun b3 w13 hC15 hB7 => ?_)
      have hC16 := hC15.row0 (α := Int)
      have hC17 := hC16.triv (int_val (10))
      have hC18 := hC17.row1
      have hC19 := hC18.triv (int_val (3))
      have hC20 := hC19.row1
      have hC21 := hC20.triv (int_val ((-1)))
      have hC22 := hC21.row1
      have hC23 := hC22.front 1 rfl
      dsimp only [List.eraseIdx, List.cons_append, List.nil_append, List.append_nil] at hC23
      have hC24 : Ctx Fs.flatten w0 w13 (Item.own (.slice (some ⟨b3, 0, none⟩) 3 3) ([(-1), 3, 10] : List Int) :: [Item.box pb1 [u1, (.int .i64 x2.2.2.1), (.int .i64 x2.2.2.2)], Item.box b2 [(.int .i64 x1.1.1), v2], Item.own v2 (x1.1.2 : (List Int)), Item.box b1 [(.int .i64 0), (.slice none 0 0)]]) := hC23.rowOwn (by simp [maxLen])
      refine WL_nil ?_
      obtain ⟨x16, hr7, hr6⟩ := bind_some hr6
      refine WA_one 4 (by kernel_rfl) rfl ?_
      have hC25 := hC24.f1
      obtain ⟨Fs4, hH4, hn4, hF4, hO4, hb4⟩ := Ctx.lend2 (As := [Item.own (.slice (some ⟨b3, 0, none⟩) 3 3) ([(-1), 3, 10] : (List Int)), Item.box b2 [(.int .i64 x1.1.1), v2], Item.own v2 (x1.1.2 : (List Int)), Item.box b1 [(.int .i64 0), (.slice none 0 0)]]) [Item.box pb1 [u1, (.int .i64 x2.2.2.1), (.int .i64 x2.2.2.2)]] hC25
      refine WL_call Try.call55 rfl rfl (c_S_l1PickInt pb1 (a1.1, x2.2.2.1, x2.2.2.2) u1 (RO.lent g1 hC25.keep hF4) ([(-1), 3, 10]) (.slice (some ⟨b3, 0, none⟩) 3 3) (hO4 0 _ _ _ rfl) hH4 hn4 x16 hr7) ?_
      rintro _ w14 ⟨rfl, hq5⟩
      have hC26 : Ctx Fs.flatten w0 w14 [Item.box pb1 [u1, (.int .i64 x16.2.2.1), (.int .i64 x16.2.2.2)], Item.own (.slice (some ⟨b3, 0, none⟩) 3 3) ([(-1), 3, 10] : (List Int)), Item.box b2 [(.int .i64 x1.1.1), v2], Item.own v2 (x1.1.2 : (List Int)), Item.box b1 [(.int .i64 0), (.slice none 0 0)]] := hb4 _ _ hq5
      refine WL_nil ?_
      refine WA_one 5 (by kernel_rfl) rfl ?_
      refine WL_buildSlice (vs := [(.int .i64 x16.1)]) hC26 Try.underlying26 ty3 rfl rfl rfl rfl (by intro v hv; simp only [List.mem_cons, List.not_mem_nil, or_false] at hv; rcases hv with rfl <;> rfl) rfl rfl (fun b4 w15 hC27 hB8 => ?_)
      have hC28 := hC27.row0 (α := Int)
      have hC29 := hC28.triv (int_val (x16.1))
      have hC30 := hC29.row1
      have hC31 := hC30.front 1 rfl
      dsimp only [List.eraseIdx, List.cons_append, List.nil_append, List.append_nil] at hC31
      have hC32 : Ctx Fs.flatten w0 w15 (Item.own (.slice (some ⟨b4, 0, none⟩) 1 1) ([x16.1] : List Int) :: [Item.box pb1 [u1, (.int .i64 x16.2.2.1), (.int .i64 x16.2.2.2)], Item.own (.slice (some ⟨b3, 0, none⟩) 3 3) ([(-1), 3, 10] : (List Int)), Item.box b2 [(.int .i64 x1.1.1), v2], Item.own v2 (x1.1.2 : (List Int)), Item.box b1 [(.int .i64 0), (.slice none 0 0)]]) := hC31.rowOwn (by simp [maxLen])
      refine WL_nil ?_
      obtain ⟨x17, hx1, hr6⟩ := bind_some hr6
      refine WA_one 6 (by kernel_rfl) rfl ?_
      refine WL_append_flat (α := Int) hC32 4 rfl (hC32.ro 0 rfl) (Keep.refl _ _) Try.underlying26 ty3 rfl hx1 rfl rfl rfl (fun v6 w16 hC33 => ?_)
      try dsimp only [List.set] at hC33
      refine WL_nil ?_
      refine WA_tk 7 (by kernel_rfl) rfl rfl (fl_field Try.underlying45 rfl rfl (fun w => ⟨_, Try.sizeOf26 w⟩) rfl) ?_
      refine WL_field Try.underlying45 rfl rfl (fun w => ⟨_, Try.sizeOf26 w⟩) rfl rfl ?_
      refine WL_nil ?_
      refine WA_one 8 (by kernel_rfl) rfl ?_
      refine WL_store_boxK (cs' := [(.int .i64 x1.1.1), v6]) hC33 3 rfl rfl (ro_one (hC33.ro 4 rfl)) rfl Try.sizeOf26 rfl rfl (fun w17 hC34 hKp3 => ?_)
      try dsimp only [List.set] at hC34
      refine WL_nil ?_
      refine WA_done (by kernel_rfl) ?_
      have hq6 := Option.some.inj hr6
      subst hq6
      have hC35 := hC34.f5
      have hC36 := hC35.f5
      have hC37 := hC36.f5
      have hC38 := hC37.f4
      have hC39 := hC38.h4
      refine nrm_sub (l' := [(4, (ptr b1 0)), (5, (ptr b2 0))]) ⟨rfl, rfl, trivial⟩ ?_
      exact ⟨x16.2.2.1, x16.2.2.2, x1.1.1, v6, x17, rfl, rfl, hC39⟩
     refine WL_buildSlice (vs := [(.int .i64 (-1)), (.int .i64 3), (.int .i64 10)]) hC14 Try.underlying26 ty3 rfl rfl rfl rfl (by intro v hv; simp only [List.mem_cons, List.not_mem_nil, or_false] at hv; rcases hv with rfl | rfl | rfl <;> rfl) rfl rfl (fun b3 w13 hC15 hB7 => ?_)
     have hC16 := hC15.row0 (α := Int)
     have hC17 := hC16.triv (int_val (10))
     have hC18 := hC17.row1
     have hC19 := hC18.triv (int_val (3))
     have hC20 := hC19.row1
     have hC21 := hC20.triv (int_val ((-1)))
     have hC22 := hC21.row1
     have hC23 := hC22.front 1 rfl
     dsimp only [List.eraseIdx, List.cons_append, List.nil_append, List.append_nil] at hC23
     have hC24 : Ctx Fs.flatten w0 w13 (Item.own (.slice (some ⟨b3, 0, none⟩) 3 3) ([(-1), 3, 10] : List Int) :: [Item.box pb1 [u1, (.int .i64 x2.2.2.1), (.int .i64 x2.2.2.2)], Item.box b2 [(.int .i64 x1.1.1), v2], Item.own v2 (x1.1.2 : (List Int)), Item.box b1 [(.int .i64 0), (.slice none 0 0)]]) := hC23.rowOwn (by simp [maxLen])
     refine WL_nil ?_
     refine WA_all2 (i := 1) (j := 4) (by kernel_rfl) rfl rfl ?_ ?_
     ·refine WL_load_box hC24 2 rfl rfl Try.isAgg26 rfl rfl ?_
      refine WL_nil ?_
      obtain ⟨x16, hr7, hr6⟩ := bind_some hr6
      refine WA_one 4 (by kernel_rfl) rfl ?_
      have hC25 := hC24.f1
      obtain ⟨Fs4, hH4, hn4, hF4, hO4, hb4⟩ := Ctx.lend2 (As := [Item.own (.slice (some ⟨b3, 0, none⟩) 3 3) ([(-1), 3, 10] : (List Int)), Item.box b2 [(.int .i64 x1.1.1), v2], Item.own v2 (x1.1.2 : (List Int)), Item.box b1 [(.int .i64 0), (.slice none 0 0)]]) [Item.box pb1 [u1, (.int .i64 x2.2.2.1), (.int .i64 x2.2.2.2)]] hC25
      refine WL_call Try.call55 rfl rfl (c_S_l1PickInt pb1 (a1.1, x2.2.2.1, x2.2.2.2) u1 (RO.lent g1 hC25.keep hF4) ([(-1), 3, 10]) (.slice (some ⟨b3, 0, none⟩) 3 3) (hO4 0 _ _ _ rfl) hH4 hn4 x16 hr7) ?_
      rintro _ w14 ⟨rfl, hq5⟩
      have hC26 : Ctx Fs.flatten w0 w14 [Item.box pb1 [u1, (.int .i64 x16.2.2.1), (.int .i64 x16.2.2.2)], Item.own (.slice (some ⟨b3, 0, none⟩) 3 3) ([(-1), 3, 10] : (List Int)), Item.box b2 [(.int .i64 x1.1.1), v2], Item.own v2 (x1.1.2 : (List Int)), Item.box b1 [(.int .i64 0), (.slice none 0 0)]] := hb4 _ _ hq5
      refine WL_nil ?_
      refine WA_one 5 (by kernel_rfl) rfl ?_
      refine WL_buildSlice (vs := [(.int .i64 x16.1)]) hC26 Try.underlying26 ty3 rfl rfl rfl rfl (by intro v hv; simp only [List.mem_cons, List.not_mem_nil, or_false] at hv; rcases hv with rfl <;> rfl) rfl rfl (fun b4 w15 hC27 hB8 => ?_)
      have hC28 := hC27.row0 (α := Int)
      have hC29 := hC28.triv (int_val (x16.1))
      have hC30 := hC29.row1
      have hC31 := hC30.front 1 rfl
      dsimp only [List.eraseIdx, List.cons_append, List.nil_append, List.append_nil] at hC31
      have hC32 : Ctx Fs.flatten w0 w15 (Item.own (.slice (some ⟨b4, 0, none⟩) 1 1) ([x16.1] : List Int) :: [Item.box pb1 [u1, (.int .i64 x16.2.2.1), (.int .i64 x16.2.2.2)], Item.own (.slice (some ⟨b3, 0, none⟩) 3 3) ([(-1), 3, 10] : (List Int)), Item.box b2 [(.int .i64 x1.1.1), v2], Item.own v2 (x1.1.2 : (List Int)), Item.box b1 [(.int .i64 0), (.slice none 0 0)]]) := hC31.rowOwn (by simp [maxLen])
      refine WL_nil ?_
      obtain ⟨x17, hx1, hr6⟩ := bind_some hr6
      refine WA_one 6 (by kernel_rfl) rfl ?_
      refine WL_append_flat (α := Int) hC32 4 rfl (hC32.ro 0 rfl) (Keep.refl _ _) Try.underlying26 ty3 rfl hx1 rfl rfl rfl (fun v6 w16 hC33 => ?_)
      try dsimp only [List.set] at hC33
      refine WL_nil ?_
      refine WA_tk 7 (by kernel_rfl) rfl rfl (fl_field Try.underlying45 rfl rfl (fun w => ⟨_, Try.sizeOf26 w⟩) rfl) ?_
      refine WL_field Try.underlying45 rfl rfl (fun w => ⟨_, Try.sizeOf26 w⟩) rfl rfl ?_
      refine WL_nil ?_
      refine WA_one 8 (by kernel_rfl) rfl ?_
      refine WL_store_boxK (cs' := [(.int .i64 x1.1.1), v6]) hC33 3 rfl rfl (ro_one (hC33.ro 4 rfl)) rfl Try.sizeOf26 rfl rfl (fun w17 hC34 hKp3 => ?_)
      try dsimp only [List.set] at hC34
      refine WL_nil ?_
      refine WA_done (by kernel_rfl) ?_
      have hq6 := Option.some.inj hr6
      subst hq6
      have hC35 := hC34.f5
      have hC36 := hC35.f5
      have hC37 := hC36.f5
      have hC38 := hC37.f4
      have hC39 := hC38.h4
      refine nrm_sub (l' := [(4, (ptr b1 0)), (5, (ptr b2 0))]) ⟨rfl, rfl, trivial⟩ ?_
      exact ⟨x16.2.2.1, x16.2.2.2, x1.1.1, v6, x17, rfl, rfl, hC39⟩
     obtain ⟨x16, hr7, hr6⟩ := bind_some hr6
     have hC25 := hC24.f1
     obtain ⟨Fs4, hH4, hn4, hF4, hO4, hb4⟩ := Ctx.lend2 (As := [Item.own (.slice (some ⟨b3, 0, none⟩) 3 3) ([(-1), 3, 10] : (List Int)), Item.box b2 [(.int .i64 x1.1.1), v2], Item.own v2 (x1.1.2 : (List Int)), Item.box b1 [(.int .i64 0), (.slice none 0 0)]]) [Item.box pb1 [u1, (.int .i64 x2.2.2.1), (.int .i64 x2.2.2.2)]] hC25
     refine WL_call Try.call55 rfl rfl (c_S_l1PickInt pb1 (a1.1, x2.2.2.1, x2.2.2.2) u1 (RO.lent g1 hC25.keep hF4) ([(-1), 3, 10]) (.slice (some ⟨b3, 0, none⟩) 3 3) (hO4 0 _ _ _ rfl) hH4 hn4 x16 hr7) ?_
     rintro _ w14 ⟨rfl, hq5⟩
     have hC26 : Ctx Fs.flatten w0 w14 [Item.box pb1 [u1, (.int .i64 x16.2.2.1), (.int .i64 x16.2.2.2)], Item.own (.slice (some ⟨b3, 0, none⟩) 3 3) ([(-1), 3, 10] : (List Int)), Item.box b2 [(.int .i64 x1.1.1), v2], Item.own v2 (x1.1.2 : (List Int)), Item.box b1 [(.int .i64 0), (.slice none 0 0)]] := hb4 _ _ hq5
     refine WL_nil ?_
     refine WA.sub (l' := [(0, (ptr pb1 0)), (1, u2), (4, (ptr b1 0)), (5, (ptr b2 0)), (6, (ptr pb1 0)), (7, u2), (8, (.agg #[(.int .i64 x1.1.1), v2])), (9, (ptr pb1 0)), (10, (.int .i64 x2.1)), (11, (.bool (decide (x2.1 = 0)))), (12, (.bool (decide (x2.1 = 0)))), (17, (.bool (decide (x2.1 = 1)))), (18, (.bool (decide (x2.1 = 1)))), (19, (ptr b2 1)), (21, (ptr pb1 0)), (22, (.slice (some ⟨b3, 0, none⟩) 3 3)), (23, (.int .i64 x16.1))]) ?_ ⟨rfl, rfl, rfl, rfl, rfl, rfl, rfl, rfl, rfl, rfl, rfl, rfl, rfl, rfl, rfl, rfl, rfl, trivial⟩
     refine WA_postsE [⟨1, [], fun vs => PW.val v2, []⟩, ⟨5, [], fun vs => PW.own ([x16.1] : (List Int)), []⟩] [[], []] 3 rfl (by kernel_rfl) (by kernel_rfl) rfl ?_ ?_
     ·refine StepsE_cons rfl ?_ ?_
      ·intro w16 hB9
       refine DepsE_nil ?_
       refine ⟨_, rfl, ?_⟩
       refine WL_load_box (hC26.grow hB9) 2 rfl rfl Try.isAgg26 rfl rfl ?_
       refine WL_nil ?_
       exact FinE_val (Below.refl _ _) rfl rfl ⟨rfl, rfl⟩
      refine StepsE_cons rfl ?_ ?_
      ·intro w16 hB9
       refine DepsE_nil ?_
       refine ⟨_, rfl, ?_⟩
       refine WL_buildSlice (vs := [(.int .i64 x16.1)]) (Ctx.start w16) Try.underlying26 ty3 rfl rfl rfl rfl (by intro v hv; simp only [List.mem_cons, List.not_mem_nil, or_false] at hv; rcases hv with rfl <;> rfl) rfl rfl (fun b4 w15 hC27 hB8 => ?_)
       have hC28 := hC27.row0 (α := Int)
       have hC29 := hC28.triv (int_val (x16.1))
       have hC30 := hC29.row1
       have hC31 := hC30.front 1 rfl
       dsimp only [List.eraseIdx, List.cons_append, List.nil_append, List.append_nil] at hC31
       have hC32 : Ctx [] w16 w15 (Item.own (.slice (some ⟨b4, 0, none⟩) 1 1) ([x16.1] : List Int) :: []) := hC31.rowOwn (by simp [maxLen])
       refine WL_nil ?_
       exact FinE_ctx hC32 rfl rfl (fun F h => h)
      exact StepsE_nil
     intro w17 hB10
     refine AllE_cons rfl rfl rfl ?_
     rintro _ _ ⟨rfl, rfl⟩
     refine AllE_cons rfl rfl rfl ?_
     intro v6 F1 hv1
     refine AllE_nil ?_
     intro hn5 hb5
     have hC33 := hC26.pushL hB10 (Bs := [Item.own v6 ([x16.1] : (List Int))]) (Fs := [F1]) ⟨F1, _, rfl, hv1, rfl⟩ (by simpa using hn5) (fun b h => (hb5 b (by simpa using h)).1)
     obtain ⟨x17, hx1, hr6⟩ := bind_some hr6
     refine WA_one 6 (by kernel_rfl) rfl ?_
     refine WL_append_flat (α := Int) hC33 4 rfl (hC33.ro 0 rfl) (Keep.refl _ _) Try.underlying26 ty3 rfl hx1 rfl rfl rfl (fun v7 w18 hC34 => ?_)
     try dsimp only [List.set] at hC34
     refine WL_nil ?_
     refine WA_tk 7 (by kernel_rfl) rfl rfl (fl_field Try.underlying45 rfl rfl (fun w => ⟨_, Try.sizeOf26 w⟩) rfl) ?_
     refine WL_field Try.underlying45 rfl rfl (fun w => ⟨_, Try.sizeOf26 w⟩) rfl rfl ?_
     refine WL_nil ?_
     refine WA_one 8 (by kernel_rfl) rfl ?_
     refine WL_store_boxK (cs' := [(.int .i64 x1.1.1), v7]) hC34 3 rfl rfl (ro_one (hC34.ro 4 rfl)) rfl Try.sizeOf26 rfl rfl (fun w19 hC35 hKp3 => ?_)
     try dsimp only [List.set] at hC35
     refine WL_nil ?_
     refine WA_done (by kernel_rfl) ?_
     have hq6 := Option.some.inj hr6
     subst hq6
     have hC36 := hC35.f5
     have hC37 := hC36.f5
     have hC38 := hC37.f5
     have hC39 := hC38.f4
     have hC40 := hC39.h4
     refine nrm_sub (l' := [(4, (ptr b1 0)), (5, (ptr b2 0))]) ⟨rfl, rfl, trivial⟩ ?_
     exact ⟨x16.2.2.1, x16.2.2.2, x1.1.1, v7, x17, rfl, rfl, hC40⟩
    rintro l3 _ w11 hs3 ⟨x12, x13, x14, v5, x15, rfl, rfl, hC13⟩
    try dsimp only at hr5
    have hq7 := Option.some.inj hr5
    subst hq7
    refine nrm_subs (l2 := [(4, (ptr b1 0)), (5, (ptr b2 0))]) hs3 ⟨rfl, rfl, trivial⟩ ?_
    exact ⟨x12, x13, x14, v5, x15, rfl, rfl, hC13⟩
   replace hr5 := ite_f hr5 hc2
   refine W_skip ?_
   have hq8 := Option.some.inj hr5
   subst hq8
   refine nrm_sub (l' := [(4, (ptr b1 0)), (5, (ptr b2 0))]) ⟨rfl, rfl, trivial⟩ ?_
   exact ⟨x2.2.2.1, x2.2.2.2, x1.1.1, v2, x1.1.2, rfl, rfl, hC8⟩
  rintro l2 _ w10 hs2 ⟨x8, x9, x10, v4, x11, rfl, rfl, hC12⟩
  try dsimp only at hr3
  have hq9 := Option.some.inj hr3
  subst hq9
  refine nrm_subs (l2 := [(4, (ptr b1 0)), (5, (ptr b2 0))]) hs2 ⟨rfl, rfl, trivial⟩ ?_
  exact ⟨x8, x9, x10, v4, x11, rfl, rfl, hC12⟩
 rintro l1 _ w6 hs1 ⟨x3, x4, x5, v3, x6, rfl, rfl, hC9⟩
 try dsimp only at hF
 refine blk_normal ?_
 refine nrm_sub' hs1 ?_
 clear hs1
 refine W_seq_reg ?_
 refine WL_load_box_agg [(.int .i64 x5), v3] hC9 1 rfl rfl rfl Try.isAgg45 Try.sizeOf45 rfl rfl ?_
 refine WL_store_box_aggK (cs' := [(.int .i64 x5), v3]) (new := [(.int .i64 x5), v3]) hC9 3 rfl rfl (by intro v hv; simp only [List.mem_cons, List.not_mem_nil, or_false] at hv; rcases hv with rfl | rfl; exact rfl; exact (ro_one (hC9.ro 2 rfl))) rfl Try.sizeOf45 rfl rfl (fun w20 hC41 hKp4 => ?_)
 try dsimp only [List.set] at hC41
 refine WL_nil ?_
 refine W_ret ?_
 have hq10 := Option.some.inj hF
 subst hq10
 refine fn_retG1 rfl (rv_cell_agg (cs' := [(.int .i64 x5), v3]) hC41 (i := 3) rfl rfl rfl Try.isAgg45 Try.sizeOf45 rfl) ?_
 have hC43 := hC41.f2
 have hC42 := own_st45 x5 v3 x6 hC43
 have hC44 := hC42.h2
 exact ⟨_, rfl, _, rfl, hC44⟩

theorem c_S_l7Log {w0 : World} (a1 : (List UInt8)) (u1 : Value) (g1 : RO [] w0 u1 a1) (rr : ((List (Int × (List Int) × Int × Int × Int)) × (List (Int × (List Int))))) (hF : S.l7Log a1 = some rr) :
 Calls Try.prog 33 [u1].toArray w0 fun e w' => ∃ v, e = .returned v ∧ Res2 w0 rr.1 rr.2 v w' := by
 refine calls_of_W Try.func33 rfl rfl ?_
 have hC0 := Ctx.start w0
 unfold S.l7Log at hF
 refine W_seq_reg ?_
 refine WL_assign rfl rfl ?_
 refine WL_assign rfl rfl ?_
 refine WL_nil ?_
 refine W_seq_reg ?_
 refine WL_move rfl rfl ?_
 obtain ⟨x1, hr1, hF⟩ := bind_some hF
 refine WL_call Try.call39 rfl rfl (c_S_l1New a1 u1 (g1.now hC0.keep) x1 hr1) ?_
 rintro _ w1 ⟨b1, rfl, hq1⟩
 have hC1 : Ctx [] w0 w1 [Item.box b1 [u1, (.int .i64 x1.2.1), (.int .i64 x1.2.2)]] := hC0.push2 hq1
 refine WL_assign rfl rfl ?_
 refine WL_nil ?_
 refine W_seq_reg ?_
 refine WL_move rfl rfl ?_
 obtain ⟨x2, hr2, hF⟩ := bind_some hF
 obtain ⟨Fs2, hH2, hn2, hF2, hO2, hb2⟩ := Ctx.lend2 (As := []) [Item.box b1 [u1, (.int .i64 x1.2.1), (.int .i64 x1.2.2)]] hC1
 refine WL_call Try.call40 rfl rfl (c_S_l5Draw b1 (a1, x1.2.1, x1.2.2) u1 (RO.lent g1 hC1.keep hF2) hH2 hn2 x2 hr2) ?_
 rintro _ w2 ⟨v1, v2, v3, rfl, hq2⟩
 have hC2 : Ctx [] w0 w2 [Item.own v1 (x2.1 : (List Int)), Item.own v2 (x2.2.1 : (List (Int × (List Int) × Int × Int × Int))), Item.own v3 (x2.2.2.1 : (List (Int × (List Int)))), Item.box b1 [u1, (.int .i64 x2.2.2.2.2.1), (.int .i64 x2.2.2.2.2.2)]] := hb2 _ _ hq2
 refine WL_move rfl rfl ?_
 refine WL_extract rfl rfl rfl ?_
 refine WL_extract rfl rfl rfl ?_
 refine WL_extract rfl rfl rfl ?_
 refine WL_assign rfl rfl ?_
 refine WL_assign rfl rfl ?_
 refine WL_assign rfl rfl ?_
 refine WL_nil ?_
 refine W_seq_reg ?_
 refine WL_buildSlice (vs := []) hC2 Try.underlying31 ty45 rfl rfl rfl rfl (by simp) rfl rfl (fun b2 w3 hC3 hB1 => ?_)
 have hC4 := hC3.row0 (α := (Int × (List Int)))
 have hC5 := hC4.front 1 rfl
 dsimp only [List.eraseIdx, List.cons_append, List.nil_append, List.append_nil] at hC5
 have hC6 : Ctx [] w0 w3 (Item.own (.slice (some ⟨b2, 0, none⟩) 0 0) (([] : List (Int × (List Int))) : List (Int × (List Int))) :: [Item.own v1 (x2.1 : (List Int)), Item.own v2 (x2.2.1 : (List (Int × (List Int) × Int × Int × Int))), Item.own v3 (x2.2.2.1 : (List (Int × (List Int)))), Item.box b1 [u1, (.int .i64 x2.2.2.2.2.1), (.int .i64 x2.2.2.2.2.2)]]) := hC5.rowOwn (by simp [maxLen])
 refine WL_assign rfl rfl ?_
 refine WL_nil ?_
 refine W_seq ?_
 refine W_seq_reg ?_
 refine WL_move rfl rfl ?_
 obtain ⟨x3, hr3, hF⟩ := bind_some hF
 have hC7 := hC6.f4
 obtain ⟨Fs3, hH3, hn3, hF3, hO3, hb3⟩ := Ctx.lend2 (As := [Item.own (.slice (some ⟨b2, 0, none⟩) 0 0) (([] : List (Int × (List Int))) : (List (Int × (List Int)))), Item.own v1 (x2.1 : (List Int)), Item.own v2 (x2.2.1 : (List (Int × (List Int) × Int × Int × Int))), Item.own v3 (x2.2.2.1 : (List (Int × (List Int))))]) [Item.box b1 [u1, (.int .i64 x2.2.2.2.2.1), (.int .i64 x2.2.2.2.2.2)]] hC7
 refine WL_call Try.call41 rfl rfl (c_S_l1Below b1 (a1, x2.2.2.2.2.1, x2.2.2.2.2.2) u1 (RO.lent g1 hC7.keep hF3) 8 hH3 hn3 x3 hr3) ?_
 rintro _ w4 ⟨rfl, hq3⟩
 have hC8 : Ctx [] w0 w4 [Item.box b1 [u1, (.int .i64 x3.2.2.1), (.int .i64 x3.2.2.2)], Item.own (.slice (some ⟨b2, 0, none⟩) 0 0) (([] : List (Int × (List Int))) : (List (Int × (List Int)))), Item.own v1 (x2.1 : (List Int)), Item.own v2 (x2.2.1 : (List (Int × (List Int) × Int × Int × Int))), Item.own v3 (x2.2.2.1 : (List (Int × (List Int))))] := hb3 _ _ hq3
 refine WL_assign rfl rfl ?_
 refine WL_nil ?_
 obtain ⟨r1, hr4, hF⟩ := bind_some hF
 refine W_norm (fun l w => ∃ x8 : Int, ∃ x9 : Int, ∃ v5 : Value, ∃ x10 : (List (Int × (List Int))), (x8, x9, x10) = r1 ∧ l = [(6, v2), (8, v5)] ∧ Ctx [] w0 w [Item.own v5 (x10 : (List (Int × (List Int)))), Item.own v2 (x2.2.1 : (List (Int × (List Int) × Int × Int × Int)))]) ?_ ?_
 ·refine W_block ?_
  have hC24 := hC8.f3
  have hC25 := hC24.f2
  have hC26 := hC25.f2
  have hC27 := hC26.h3
  refine W.sub (l' := [(4, (ptr b1 0)), (6, v2), (8, (.slice (some ⟨b2, 0, none⟩) 0 0)), (9, (.int .i64 x3.1))]) ?_ ⟨rfl, rfl, rfl, rfl, trivial⟩
  refine W_loop (fun k l w => ∃ x4 : Int, ∃ x5 : Int, ∃ v4 : Value, ∃ x6 : (List (Int × (List Int))), ∃ x7 : Int, l = [(4, (ptr b1 0)), (6, v2), (8, v4), (9, (.int .i64 x7))] ∧ Ctx [] w0 w [Item.box b1 [u1, (.int .i64 x4), (.int .i64 x5)], Item.own v4 (x6 : (List (Int × (List Int)))), Item.own v2 (x2.2.1 : (List (Int × (List Int) × Int × Int × Int)))] ∧ S.l7Log_l1 a1 x2 k x4 x5 x6 x7 = some r1) FUEL ⟨x3.2.2.1, x3.2.2.2, (.slice (some ⟨b2, 0, none⟩) 0 0), ([] : List (Int × (List Int))), x3.1, rfl, hC27, hr4⟩ ?_
  clear hr4
  rintro k1 _ w5 ⟨x4, x5, v4, x6, x7, rfl, hC9, hL1⟩
  cases k1 with
  | zero => rw [S.l7Log_l1] at hL1; cases hL1
  | succ k1 =>
   rw [S.l7Log_l1] at hL1
   refine W_seq ?_
   refine W_seq_reg ?_
   refine WL_move rfl rfl ?_
   refine WL_gtr rfl rfl rfl ?_
   refine WL_nil ?_
   refine W_cond rfl (fun hc1 => ?_) (fun hc1 => ?_)
   ·replace hL1 := ite_t hL1 hc1
    refine W_skip ?_
    refine nrm_normal ?_
    refine W_seq ?_
    refine W_block ?_
    refine W_reg ?_
    refine WL_move rfl rfl ?_
    refine WL_move rfl rfl ?_
    refine WL_move rfl rfl ?_
    obtain ⟨x11, hr5, hL1⟩ := bind_some hL1
    obtain ⟨Fs4, hH4, hn4, hF4, hO4, hb4⟩ := Ctx.lend2 (As := [Item.own v4 (x6 : (List (Int × (List Int)))), Item.own v2 (x2.2.1 : (List (Int × (List Int) × Int × Int × Int)))]) [Item.box b1 [u1, (.int .i64 x4), (.int .i64 x5)]] hC9
    refine WL_call Try.call42 rfl rfl (c_S_l5AnyAccess b1 (a1, x4, x5) u1 (RO.lent g1 hC9.keep hF4) x2.2.1 v2 (hO4 1 _ _ _ rfl) hH4 hn4 x11 hr5) ?_
    rintro v6 w6 ⟨_, rfl, hq4⟩
    have hC10 : Ctx [] w0 w6 [Item.own v6 (x11.1 : (Int × (List Int))), Item.box b1 [u1, (.int .i64 x11.2.2.1), (.int .i64 x11.2.2.2)], Item.own v4 (x6 : (List (Int × (List Int)))), Item.own v2 (x2.2.1 : (List (Int × (List Int) × Int × Int × Int)))] := hb4 _ _ hq4
    obtain ⟨v7, rfl, hC11⟩ := st45_own hC10
    refine WL_buildSlice (vs := [(.agg #[(.int .i64 x11.1.1), v7])]) hC11 Try.underlying31 ty45 rfl rfl rfl rfl (by intro v hv; simp only [List.mem_cons, List.not_mem_nil, or_false] at hv; rcases hv with rfl <;> rfl) rfl rfl (fun b3 w7 hC12 hB3 => ?_)
    have hC13 := hC12.row0 (α := (Int × (List Int)))
    have hC15 := hC13.f2
    have hC14 := own_st45 x11.1.1 v7 x11.1.2 hC15
    have hC16 := hC14.row1
    have hC17 := hC16.front 1 rfl
    dsimp only [List.eraseIdx, List.cons_append, List.nil_append, List.append_nil] at hC17
    have hC18 : Ctx [] w0 w7 (Item.own (.slice (some ⟨b3, 0, none⟩) 1 1) ([(x11.1.1, x11.1.2)] : List (Int × (List Int))) :: [Item.box b1 [u1, (.int .i64 x11.2.2.1), (.int .i64 x11.2.2.2)], Item.own v4 (x6 : (List (Int × (List Int)))), Item.own v2 (x2.2.1 : (List (Int × (List Int) × Int × Int × Int)))]) := hC17.rowOwn (by simp [maxLen])
    obtain ⟨x12, hx1, hL1⟩ := bind_some hL1
    refine WL_append_head hC18 1 rfl Try.underlying31 ty45 rfl hx1 rfl rfl rfl (fun v8 w9 hC19 => ?_)
    try dsimp only [List.set] at hC19
    refine WL_assign rfl rfl ?_
    refine WL_nil ?_
    refine blk_normal ?_
    refine nrm_normal ?_
    refine W_reg ?_
    refine WL_move rfl rfl ?_
    refine WL_sub rfl rfl rfl ?_
    refine WL_assign rfl rfl ?_
    refine WL_nil ?_
    refine nrm_sub (l' := [(4, (ptr b1 0)), (6, v2), (8, v8), (9, (.int .i64 (w64 (x7 - 1))))]) ⟨rfl, rfl, rfl, rfl, trivial⟩ ?_
    exact ⟨k1, Nat.lt_succ_self _, x11.2.2.1, x11.2.2.2, v8, x12, w64 (x7 - 1), rfl, hC19, hL1⟩
   replace hL1 := ite_f hL1 hc1
   refine W_exit ?_
   refine nrm_exit ?_
   refine nrm_exit ?_
   refine blk_exit ?_
   have hq5 := Option.some.inj hL1
   subst hq5
   have hC21 := hC9.f2
   have hC22 := hC21.f2
   have hC23 := hC22.h2
   refine nrm_sub (l' := [(6, v2), (8, v4)]) ⟨rfl, rfl, trivial⟩ ?_
   exact ⟨x4, x5, v4, x6, rfl, rfl, hC23⟩
 rintro l2 _ w10 hs2 ⟨x8, x9, v5, x10, rfl, rfl, hC28⟩
 try dsimp only at hF
 refine nrm_sub' hs2 ?_
 clear hs2
 refine W_seq_reg ?_
 refine WL_move rfl rfl ?_
 refine WL_move rfl rfl ?_
 refine WL_assign rfl rfl ?_
 refine WL_assign rfl rfl ?_
 refine WL_nil ?_
 refine W_ret ?_
 have hq6 := Option.some.inj hF
 subst hq6
 refine fn_ret2 rfl rfl rfl ?_
 have hC30 := hC28.f1
 exact ⟨_, rfl, res2_of hC30⟩

theorem c_S_DrawScheduleLog {w0 : World} (a1 : (List UInt8)) (u1 : Value) (g1 : RO [] w0 u1 a1) (rr : ((List (Int × (List Int) × Int × Int × Int)) × (List (Int × (List Int))) × Int × Int)) (hF : S.DrawScheduleLog a1 = some rr) :
 Calls Try.prog 19 [u1].toArray w0 fun e w' => ∃ v, e = .returned v ∧ ∃ q0 : Value, ∃ q1 : Value, v = (.tuple #[q0, q1, (.int .i64 rr.2.2.1), (.int .i64 rr.2.2.2)]) ∧ Ctx [] w0 w' [Item.own q0 (rr.1 : (List (Int × (List Int) × Int × Int × Int))), Item.own q1 (rr.2.1 : (List (Int × (List Int))))] := by
 refine calls_of_W Try.func19 rfl rfl ?_
 have hC0 := Ctx.start w0
 unfold S.DrawScheduleLog at hF
 refine W_seq_reg ?_
 refine WL_assign rfl rfl ?_
 refine WL_assign rfl rfl ?_
 refine WL_assign rfl rfl ?_
 refine WL_assign rfl rfl ?_
 refine WL_nil ?_
 refine W_seq_reg ?_
 refine WL_move rfl rfl ?_
 obtain ⟨x1, hr1, hF⟩ := bind_some hF
 refine WL_call Try.call33 rfl rfl (c_S_l7Log a1 u1 (g1.now hC0.keep) x1 hr1) ?_
 rintro _ w1 ⟨hB1, v1, v2, F1, F2, rfl, hv1, hv2, hn1, hb1⟩
 have hC1 := hC0.pushL hB1 (Bs := [Item.own v1 x1.1, Item.own v2 x1.2]) (Fs := [F1, F2]) ⟨F1, _, rfl, hv1, F2, _, rfl, hv2, rfl⟩ (by simpa using hn1) (fun b h => hb1 b (by simpa using h))
 refine WL_move rfl rfl ?_
 refine WL_extract rfl rfl rfl ?_
 refine WL_extract rfl rfl rfl ?_
 refine WL_assign rfl rfl ?_
 refine WL_assign rfl rfl ?_
 refine WL_nil ?_
 refine W_seq_reg ?_
 refine WL_move rfl rfl ?_
 refine WL_move rfl rfl ?_
 refine WL_move rfl rfl ?_
 refine WL_len Try.underlying40 g1 rfl rfl ?_
 refine WL_rem (by decide) rfl rfl rfl ?_
 refine WL_add rfl rfl rfl ?_
 refine WL_move rfl rfl ?_
 refine WL_len Try.underlying40 g1 rfl rfl ?_
 refine WL_rem (by decide) rfl rfl rfl ?_
 refine WL_assign rfl rfl ?_
 refine WL_assign rfl rfl ?_
 refine WL_assign rfl rfl ?_
 refine WL_assign rfl rfl ?_
 refine WL_nil ?_
 refine W_ret ?_
 have hq1 := Option.some.inj hF
 subst hq1
 refine fn_ret4 rfl rfl rfl rfl rfl ?_
 have hC2 := hC1.f1
 have hC3 := hC2.f1
 exact ⟨_, rfl, _, _, rfl, hC3⟩

theorem c_Q_sameInts {w0 : World} (a1 : (List Int)) (u1 : Value) (g1 : RO [] w0 u1 a1) (a2 : (List Int)) (u2 : Value) (g2 : RO [] w0 u2 a2) (rr : Bool) (hF : Q.sameInts a1 a2 = some rr) :
 Calls Try.prog 20 [u1, u2].toArray w0 fun e w' => ∃ v, e = .returned v ∧ Res w0 rr v w' := by
 refine calls_of_W Try.func20 rfl rfl ?_
 have hC0 := Ctx.start w0
 unfold Q.sameInts at hF
 refine W_seq_reg ?_
 refine WL_assign rfl rfl ?_
 refine WL_nil ?_
 refine W_seq ?_
 refine W_seq_reg ?_
 refine WL_move rfl rfl ?_
 refine WL_len Try.underlying26 g1 rfl rfl ?_
 refine WL_move rfl rfl ?_
 refine WL_len Try.underlying26 g2 rfl rfl ?_
 refine WL_neq rfl rfl rfl ?_
 refine WL_nil ?_
 refine W_cond rfl (fun hc1 => ?_) (fun hc1 => ?_)
 ·replace hF := ite_t hF hc1
  refine W_seq_reg ?_
  refine WL_assign rfl rfl ?_
  refine WL_nil ?_
  refine W_ret ?_
  refine nrm_ret ?_
  have hq1 := Option.some.inj hF
  subst hq1
  refine fn_ret1 rfl rfl ?_
  exact ⟨_, rfl, bool_res hC0 _⟩
 replace hF := ite_f hF hc1
 refine W_skip ?_
 refine nrm_normal ?_
 refine W_seq ?_
 refine W_seq_reg ?_
 refine WL_assign rfl rfl ?_
 refine WL_nil ?_
 obtain ⟨r1, hr1, hF⟩ := bind_some hF
 refine W_norm (fun l w => .inl () = r1 ∧ l = [] ∧ Below w0.heap.size w0 w ∧ Ctx [] w0 w []) ?_ ?_
 ·refine W_block ?_
  refine W.sub (l' := [(0, u1), (1, u2), (5, (.int .i64 0))]) ?_ ⟨rfl, rfl, rfl, trivial⟩
  refine W_loop (fun k l w => ∃ x1 : Int, l = [(0, u1), (1, u2), (5, (.int .i64 x1))] ∧ Below w0.heap.size w0 w ∧ Ctx [] w0 w [] ∧ Q.sameInts_l1 a1 a2 k x1 = some r1) FUEL ⟨0, rfl, (Below.refl _ _), hC0, hr1⟩ ?_
  clear hr1
  rintro k1 _ w1 ⟨x1, rfl, hB1, hC1, hL1⟩
  cases k1 with
  | zero => rw [Q.sameInts_l1] at hL1; cases hL1
  | succ k1 =>
   rw [Q.sameInts_l1] at hL1
   refine W_seq ?_
   refine W_seq_reg ?_
   refine WL_move rfl rfl ?_
   refine WL_move rfl rfl ?_
   refine WL_len Try.underlying26 g1 rfl rfl ?_
   refine WL_lss rfl rfl rfl ?_
   refine WL_nil ?_
   refine W_cond rfl (fun hc2 => ?_) (fun hc2 => ?_)
   ·replace hL1 := ite_t hL1 hc2
    refine W_skip ?_
    refine nrm_normal ?_
    refine W_seq ?_
    refine W_block ?_
    refine W_seq ?_
    refine W_drawn 9 rfl hmix (fun w2 hB2 => ?_)
    have hC2 := hC1.grow hB2
    refine WA_tk 0 (by kernel_rfl) rfl rfl (fl_move rfl) ?_
    refine WL_move rfl rfl ?_
    refine WL_nil ?_
    refine WA_tk 1 (by kernel_rfl) rfl rfl (fl_move rfl) ?_
    refine WL_move rfl rfl ?_
    refine WL_nil ?_
    obtain ⟨x2, hx1, hL1⟩ := bind_some hL1
    refine WA_tk 2 (by kernel_rfl) rfl rfl (fl_index Try.underlying26 ty3 g1 hx1 rfl rfl) ?_
    refine WL_index Try.underlying26 ty3 g1 hx1 rfl rfl rfl (fun b1 o1 h1 => ?_)
    refine WL_nil ?_
    refine WA_tk 4 (by kernel_rfl) rfl rfl (fl_move rfl) ?_
    refine WL_move rfl rfl ?_
    refine WL_nil ?_
    refine WA_tk 5 (by kernel_rfl) rfl rfl (fl_move rfl) ?_
    refine WL_move rfl rfl ?_
    refine WL_nil ?_
    obtain ⟨x3, hx2, hL1⟩ := bind_some hL1
    refine WA_tk 6 (by kernel_rfl) rfl rfl (fl_index Try.underlying26 ty3 g2 hx2 rfl rfl) ?_
    refine WL_index Try.underlying26 ty3 g2 hx2 rfl rfl rfl (fun b2 o2 h2 => ?_)
    refine WL_nil ?_
    refine WA.sub (l' := [(0, u1), (1, u2), (5, (.int .i64 x1)), (11, (.int .i64 x1)), (12, u1), (13, (.int .i64 (List.length a1 : Int))), (14, (.bool (decide (x1 < (List.length a1 : Int))))), (17, u1), (18, (.int .i64 x1)), (19, (ptr b1 o1)), (21, u2), (22, (.int .i64 x1)), (23, (ptr b2 o2))]) ?_ ⟨rfl, rfl, rfl, rfl, rfl, rfl, rfl, rfl, rfl, rfl, rfl, rfl, rfl, trivial⟩
    refine WA_postsE [⟨3, [], fun vs => PW.val (.int .i64 x2), []⟩, ⟨7, [], fun vs => PW.val (.int .i64 x3), []⟩] [[], []] 1 rfl (by kernel_rfl) (by kernel_rfl) rfl ?_ ?_
    ·refine StepsE_cons rfl ?_ ?_
     ·intro w3 hB3
      refine DepsE_nil ?_
      refine ⟨_, rfl, ?_⟩
      refine WL_load ty3 h1 (hC2.keep.then hB3) rfl rfl (fun v1 h3 => ?_)
      obtain rfl := ro_int h3
      refine WL_nil ?_
      exact FinE_val (Below.refl _ _) rfl rfl ⟨rfl, rfl⟩
     refine StepsE_cons rfl ?_ ?_
     ·intro w3 hB3
      refine DepsE_nil ?_
      refine ⟨_, rfl, ?_⟩
      refine WL_load ty3 h2 (hC2.keep.then hB3) rfl rfl (fun v2 h4 => ?_)
      obtain rfl := ro_int h4
      refine WL_nil ?_
      exact FinE_val (Below.refl _ _) rfl rfl ⟨rfl, rfl⟩
     exact StepsE_nil
    intro w4 hB4
    refine AllE_cons rfl rfl rfl ?_
    rintro _ _ ⟨rfl, rfl⟩
    refine AllE_cons rfl rfl rfl ?_
    rintro _ _ ⟨rfl, rfl⟩
    refine AllE_nil ?_
    intro hn1 hb1
    have hC3 := hC2.grow hB4
    refine WA_tk 8 (by kernel_rfl) rfl rfl (fl_neq rfl rfl) ?_
    refine WL_neq rfl rfl rfl ?_
    refine WL_nil ?_
    refine WA_done (by kernel_rfl) ?_
    refine nrm_normal ?_
    refine W_cond rfl (fun hc3 => ?_) (fun hc3 => ?_)
    ·replace hL1 := ite_t hL1 hc3
     refine W_seq_reg ?_
     refine WL_assign rfl rfl ?_
     refine WL_nil ?_
     refine W_ret ?_
     refine blk_ret ?_
     refine nrm_ret ?_
     refine nrm_ret ?_
     refine blk_ret ?_
     refine nrm_ret ?_
     refine nrm_ret ?_
     have hq2 := Option.some.inj hL1
     subst hq2
     dsimp only at hF
     have hq3 := Option.some.inj hF
     subst hq3
     refine fn_ret1 rfl rfl ?_
     exact ⟨_, rfl, bool_res hC3 _⟩
    replace hL1 := ite_f hL1 hc3
    refine W_skip ?_
    refine blk_normal ?_
    refine nrm_normal ?_
    refine W_reg ?_
    refine WL_move rfl rfl ?_
    refine WL_add rfl rfl rfl ?_
    refine WL_assign rfl rfl ?_
    refine WL_nil ?_
    refine nrm_sub (l' := [(0, u1), (1, u2), (5, (.int .i64 (w64 (x1 + 1))))]) ⟨rfl, rfl, rfl, trivial⟩ ?_
    exact ⟨k1, Nat.lt_succ_self _, w64 (x1 + 1), rfl, (((Keep.of hB1).then hB2).then hB4).below, hC3, hL1⟩
   replace hL1 := ite_f hL1 hc2
   refine W_exit ?_
   refine nrm_exit ?_
   refine nrm_exit ?_
   refine blk_exit ?_
   have hq4 := Option.some.inj hL1
   subst hq4
   refine nrm_sub (l' := []) trivial ?_
   exact ⟨rfl, rfl, (Keep.of hB1).below, hC1⟩
 rintro l2 _ w5 hs2 ⟨rfl, rfl, hB5, hC4⟩
 try dsimp only at hF
 refine nrm_sub' hs2 ?_
 clear hs2
 refine W_seq_reg ?_
 refine WL_assign rfl rfl ?_
 refine WL_nil ?_
 refine W_ret ?_
 have hq5 := Option.some.inj hF
 subst hq5
 refine fn_ret1 rfl rfl ?_
 exact ⟨_, rfl, bool_res hC4 _⟩

theorem c_M_IsWindow {w0 : World} (a1 : (Int × Int)) (rr : Bool) (hF : M.IsWindow a1 = some rr) :
 Calls Try.prog 34 [(.agg #[(.int .i64 a1.1), (.int .i64 a1.2)])].toArray w0 fun e w' => ∃ v, e = .returned v ∧ Res w0 rr v w' := by
 refine calls_of_W Try.func34 rfl rfl ?_
 have hC0 := Ctx.start w0
 unfold M.IsWindow at hF
 refine W_seq_reg ?_
 refine WL_boxK (cs := [(.int .i64 a1.1), (.int .i64 a1.2)]) hC0 rfl rfl rfl (fun b1 w1 hC1 hB1 hN1 => ?_)
 refine WL_assign rfl rfl ?_
 refine WL_nil ?_
 obtain ⟨r1, hr1, hF⟩ := bind_some hF
 refine W_cut (fun l w => ∃ x1 : Bool, x1 = r1 ∧ l = [(2, (.bool x1))] ∧ Below w1.heap.size w1 w ∧ Ctx [] w0 w []) ?_ ?_
 ·refine W_reg ?_
  refine WL_field Try.underlying49 rfl rfl (fun w => ⟨_, Try.sizeOf3 w⟩) rfl rfl ?_
  refine WL_load_box hC1 0 rfl rfl Try.isAgg3 rfl rfl ?_
  obtain ⟨x2, hr2, hr1⟩ := bind_some hr1
  refine WL_call Try.call28 rfl rfl (c_M_within a1.1 1 100 x2 hr2) ?_
  intro _ w3 hv1
  obtain ⟨rfl, hB3⟩ := res_bool hv1
  have hC3 := hC1.grow hB3
  refine WL_move rfl rfl ?_
  refine WL_fork (fun hc1 => ?_) (fun hc1 => ?_)
  ·replace hr1 := ite_t hr1 hc1
   refine WL_guard rfl rfl ?_
   refine WL_field Try.underlying49 rfl rfl (fun w => ⟨_, Try.sizeOf3 w⟩) rfl rfl ?_
   refine WL_guard rfl rfl ?_
   refine WL_load_box hC3 0 rfl rfl Try.isAgg3 rfl rfl ?_
   obtain ⟨x3, hr3, hr1⟩ := bind_some hr1
   refine WL_guard rfl rfl ?_
   refine WL_call Try.call28 rfl rfl (c_M_within a1.2 1 99 x3 hr3) ?_
   intro _ w4 hv2
   obtain ⟨rfl, hB4⟩ := res_bool hv2
   have hC4 := hC3.grow hB4
   refine WL_pick_t rfl rfl rfl ?_
   refine WL_assign rfl rfl ?_
   refine WL_nil ?_
   have hq1 := Option.some.inj hr1
   subst hq1
   have hC5 := hC4.h0
   refine nrm_sub (l' := [(2, (.bool x3))]) ⟨rfl, trivial⟩ ?_
   exact ⟨x3, rfl, rfl, ((Keep.of hB3).then hB4).below, hC5⟩
  replace hr1 := ite_f hr1 hc1
  refine WL_guard_skip rfl rfl (by simp) rfl ?_
  refine WL_guard_skip rfl rfl (by simp) rfl ?_
  refine WL_guard_skip rfl rfl (by simp) rfl ?_
  refine WL_pick_f rfl rfl rfl ?_
  refine WL_assign rfl rfl ?_
  refine WL_nil ?_
  have hq2 := Option.some.inj hr1
  subst hq2
  have hC6 := hC3.h0
  refine nrm_sub (l' := [(2, (.bool false))]) ⟨rfl, trivial⟩ ?_
  exact ⟨false, rfl, rfl, (Keep.of hB3).below, hC6⟩
 rintro _ w2 ⟨x1, rfl, rfl, hB2, hC2⟩
 try dsimp only at hF
 refine W_ret ?_
 have hq3 := Option.some.inj hF
 subst hq3
 refine fn_ret1 rfl rfl ?_
 exact ⟨_, rfl, bool_res hC2 _⟩

theorem c_M_bit {w0 : World} (a1 : Bool) (rr : Int) (hF : M.bit a1 = some rr) :
 Calls Try.prog 43 [(.bool a1)].toArray w0 fun e w' => ∃ v, e = .returned v ∧ Res w0 rr v w' := by
 refine calls_of_W Try.func43 rfl rfl ?_
 have hC0 := Ctx.start w0
 unfold M.bit at hF
 refine W_seq_reg ?_
 refine WL_assign rfl rfl ?_
 refine WL_nil ?_
 refine W_seq ?_
 refine W_seq_reg ?_
 refine WL_move rfl rfl ?_
 refine WL_nil ?_
 refine W_cond rfl (fun hc1 => ?_) (fun hc1 => ?_)
 ·replace hF := ite_t hF hc1
  refine W_seq_reg ?_
  refine WL_assign rfl rfl ?_
  refine WL_nil ?_
  refine W_ret ?_
  refine nrm_ret ?_
  have hq1 := Option.some.inj hF
  subst hq1
  refine fn_ret1 rfl rfl ?_
  exact ⟨_, rfl, int_res hC0 _⟩
 replace hF := ite_f hF hc1
 refine W_skip ?_
 refine nrm_normal ?_
 refine W_seq_reg ?_
 refine WL_assign rfl rfl ?_
 refine WL_nil ?_
 refine W_ret ?_
 have hq2 := Option.some.inj hF
 subst hq2
 refine fn_ret1 rfl rfl ?_
 exact ⟨_, rfl, int_res hC0 _⟩

theorem c_M_CallsIn {w0 : World} (a1 : (List Int)) (u1 : Value) (g1 : RO [] w0 u1 a1) (a2 : Int) (a3 : Int) (rr : Int) (hF : M.CallsIn a1 a2 a3 = some rr) :
 Calls Try.prog 35 [u1, (.int .i64 a2), (.int .i64 a3)].toArray w0 fun e w' => ∃ v, e = .returned v ∧ Res w0 rr v w' := by
 refine calls_of_W Try.func35 rfl rfl ?_
 have hC0 := Ctx.start w0
 unfold M.CallsIn at hF
 refine W_seq_reg ?_
 refine WL_assign rfl rfl ?_
 refine WL_nil ?_
 refine W_seq_reg ?_
 refine WL_assign rfl rfl ?_
 refine WL_nil ?_
 refine W_seq ?_
 refine W_seq_reg ?_
 refine WL_move rfl rfl ?_
 refine WL_len Try.underlying26 g1 rfl rfl ?_
 refine WL_move rfl rfl ?_
 refine WL_nil ?_
 obtain ⟨r1, hr1, hF⟩ := bind_some hF
 refine W_norm (fun l w => ∃ x3 : Int, x3 = r1 ∧ l = [(7, (.int .i64 x3))] ∧ Below w0.heap.size w0 w ∧ Ctx [] w0 w []) ?_ ?_
 ·refine W_block ?_
  refine W.sub (l' := [(1, (.int .i64 a2)), (2, (.int .i64 a3)), (7, (.int .i64 0)), (10, u1), (11, (.int .i64 (List.length a1 : Int))), (12, (.int .i64 0))]) ?_ ⟨rfl, rfl, rfl, rfl, rfl, rfl, trivial⟩
  refine W_loop (fun k l w => ∃ x1 : Int, ∃ x2 : Int, l = [(1, (.int .i64 a2)), (2, (.int .i64 a3)), (7, (.int .i64 x1)), (10, u1), (11, (.int .i64 (List.length a1 : Int))), (12, (.int .i64 x2))] ∧ Below w0.heap.size w0 w ∧ Ctx [] w0 w [] ∧ M.CallsIn_l1 a1 a2 a3 k x1 x2 = some r1) FUEL ⟨0, 0, rfl, (Below.refl _ _), hC0, hr1⟩ ?_
  clear hr1
  rintro k1 _ w1 ⟨x1, x2, rfl, hB1, hC1, hL1⟩
  cases k1 with
  | zero => rw [M.CallsIn_l1] at hL1; cases hL1
  | succ k1 =>
   rw [M.CallsIn_l1] at hL1
   refine W_seq_reg ?_
   refine WL_lss rfl rfl rfl ?_
   refine WL_nil ?_
   refine W_seq ?_
   refine W_cond rfl (fun hc1 => ?_) (fun hc1 => ?_)
   ·replace hL1 := ite_t hL1 hc1
    refine W_skip ?_
    refine nrm_normal ?_
    refine W_seq ?_
    refine W_block ?_
    refine W_seq_reg ?_
    obtain ⟨x4, hx1, hL1⟩ := bind_some hL1
    refine WL_index Try.underlying26 ty3 g1 hx1 rfl rfl rfl (fun b1 o1 h1 => ?_)
    refine WL_load ty3 h1 hC1.keep rfl rfl (fun v1 h2 => ?_)
    obtain rfl := ro_int h2
    refine WL_assign rfl rfl ?_
    refine WL_nil ?_
    obtain ⟨r2, hr2, hL1⟩ := bind_some hL1
    refine W_norm (fun l w => ∃ x5 : Int, x5 = r2 ∧ l = [(1, (.int .i64 a2)), (2, (.int .i64 a3)), (7, (.int .i64 x5)), (10, u1), (11, (.int .i64 (List.length a1 : Int))), (12, (.int .i64 x2))] ∧ Below w1.heap.size w1 w ∧ Ctx [] w0 w []) ?_ ?_
    ·refine W_reg ?_
     refine WL_move rfl rfl ?_
     refine WL_move rfl rfl ?_
     refine WL_geq rfl rfl rfl ?_
     refine WL_move rfl rfl ?_
     refine WL_fork (fun hc2 => ?_) (fun hc2 => ?_)
     ·replace hr2 := ite_t hr2 hc2
      refine WL_guard rfl rfl ?_
      refine WL_move rfl rfl ?_
      refine WL_guard rfl rfl ?_
      refine WL_move rfl rfl ?_
      refine WL_guard rfl rfl ?_
      refine WL_geq rfl rfl rfl ?_
      refine WL_pick_t rfl rfl rfl ?_
      refine WL_move rfl rfl ?_
      refine WL_fork (fun hc3 => ?_) (fun hc3 => ?_)
      ·replace hr2 := ite_t hr2 hc3
       refine WL_guard rfl rfl ?_
       refine WL_move rfl rfl ?_
       refine WL_guard rfl rfl ?_
       refine WL_move rfl rfl ?_
       refine WL_guard rfl rfl ?_
       refine WL_sub rfl rfl rfl ?_
       refine WL_guard rfl rfl ?_
       refine WL_move rfl rfl ?_
       refine WL_guard rfl rfl ?_
       refine WL_lss rfl rfl rfl ?_
       refine WL_pick_t rfl rfl rfl ?_
       obtain ⟨x6, hr3, hr2⟩ := bind_some hr2
       refine WL_call Try.call43 rfl rfl (c_M_bit (decide ((w64 (x4 - a2)) < a3)) x6 hr3) ?_
       intro _ w3 hv1
       obtain ⟨rfl, hB3⟩ := res_int hv1
       have hC3 := hC1.grow hB3
       refine WL_add rfl rfl rfl ?_
       refine WL_assign rfl rfl ?_
       refine WL_nil ?_
       have hq1 := Option.some.inj hr2
       subst hq1
       refine nrm_sub (l' := [(1, (.int .i64 a2)), (2, (.int .i64 a3)), (7, (.int .i64 (w64 (x1 + x6)))), (10, u1), (11, (.int .i64 (List.length a1 : Int))), (12, (.int .i64 x2))]) ⟨rfl, rfl, rfl, rfl, rfl, rfl, trivial⟩ ?_
       exact ⟨w64 (x1 + x6), rfl, rfl, (Keep.of hB3).below, hC3⟩
      replace hr2 := ite_f hr2 hc3
      refine WL_guard_skip rfl rfl (by simp) rfl ?_
      refine WL_guard_skip rfl rfl (by simp) rfl ?_
      refine WL_guard_skip rfl rfl (by simp) rfl ?_
      refine WL_guard_skip rfl rfl (by simp) rfl ?_
      refine WL_guard_skip rfl rfl (by simp) rfl ?_
      refine WL_pick_f rfl rfl rfl ?_
      obtain ⟨x7, hr4, hr2⟩ := bind_some hr2
      refine WL_call Try.call43 rfl rfl (c_M_bit false x7 hr4) ?_
      intro _ w4 hv2
      obtain ⟨rfl, hB4⟩ := res_int hv2
      have hC4 := hC1.grow hB4
      refine WL_add rfl rfl rfl ?_
      refine WL_assign rfl rfl ?_
      refine WL_nil ?_
      have hq2 := Option.some.inj hr2
      subst hq2
      refine nrm_sub (l' := [(1, (.int .i64 a2)), (2, (.int .i64 a3)), (7, (.int .i64 (w64 (x1 + x7)))), (10, u1), (11, (.int .i64 (List.length a1 : Int))), (12, (.int .i64 x2))]) ⟨rfl, rfl, rfl, rfl, rfl, rfl, trivial⟩ ?_
      exact ⟨w64 (x1 + x7), rfl, rfl, (Keep.of hB4).below, hC4⟩
     replace hr2 := ite_f hr2 hc2
     refine WL_guard_skip rfl rfl (by simp) rfl ?_
     refine WL_guard_skip rfl rfl (by simp) rfl ?_
     refine WL_guard_skip rfl rfl (by simp) rfl ?_
     refine WL_pick_f rfl rfl rfl ?_
     refine WL_move rfl rfl ?_
     refine WL_guard_skip rfl rfl (by simp) rfl ?_
     refine WL_guard_skip rfl rfl (by simp) rfl ?_
     refine WL_guard_skip rfl rfl (by simp) rfl ?_
     refine WL_guard_skip rfl rfl (by simp) rfl ?_
     refine WL_guard_skip rfl rfl (by simp) rfl ?_
     refine WL_pick_f rfl rfl rfl ?_
     obtain ⟨x8, hr5, hr2⟩ := bind_some hr2
     refine WL_call Try.call43 rfl rfl (c_M_bit false x8 hr5) ?_
     intro _ w5 hv3
     obtain ⟨rfl, hB5⟩ := res_int hv3
     have hC5 := hC1.grow hB5
     refine WL_add rfl rfl rfl ?_
     refine WL_assign rfl rfl ?_
     refine WL_nil ?_
     have hq3 := Option.some.inj hr2
     subst hq3
     refine nrm_sub (l' := [(1, (.int .i64 a2)), (2, (.int .i64 a3)), (7, (.int .i64 (w64 (x1 + x8)))), (10, u1), (11, (.int .i64 (List.length a1 : Int))), (12, (.int .i64 x2))]) ⟨rfl, rfl, rfl, rfl, rfl, rfl, trivial⟩ ?_
     exact ⟨w64 (x1 + x8), rfl, rfl, (Keep.of hB5).below, hC5⟩
    rintro l2 _ w2 hs2 ⟨x5, rfl, rfl, hB2, hC2⟩
    try dsimp only at hL1
    refine blk_normal ?_
    refine nrm_sub' hs2 ?_
    clear hs2
    refine W_reg ?_
    refine WL_add rfl rfl rfl ?_
    refine WL_move rfl rfl ?_
    refine WL_nil ?_
    refine nrm_sub (l' := [(1, (.int .i64 a2)), (2, (.int .i64 a3)), (7, (.int .i64 x5)), (10, u1), (11, (.int .i64 (List.length a1 : Int))), (12, (.int .i64 (w64 (x2 + 1))))]) ⟨rfl, rfl, rfl, rfl, rfl, rfl, trivial⟩ ?_
    exact ⟨k1, Nat.lt_succ_self _, x5, w64 (x2 + 1), rfl, ((Keep.of hB1).then hB2).below, hC2, hL1⟩
   replace hL1 := ite_f hL1 hc1
   refine W_exit ?_
   refine nrm_exit ?_
   refine nrm_exit ?_
   refine blk_exit ?_
   have hq4 := Option.some.inj hL1
   subst hq4
   refine nrm_sub (l' := [(7, (.int .i64 x1))]) ⟨rfl, trivial⟩ ?_
   exact ⟨x1, rfl, rfl, (Keep.of hB1).below, hC1⟩
 rintro l3 _ w6 hs3 ⟨x3, rfl, rfl, hB6, hC6⟩
 try dsimp only at hF
 refine nrm_sub' hs3 ?_
 clear hs3
 refine W_seq_reg ?_
 refine WL_move rfl rfl ?_
 refine WL_assign rfl rfl ?_
 refine WL_nil ?_
 refine W_ret ?_
 have hq5 := Option.some.inj hF
 subst hq5
 refine fn_ret1 rfl rfl ?_
 exact ⟨_, rfl, int_res hC6 _⟩

end Go.Gx.Px
