/- The contracts of the Go functions against the pure functions, printed by program. Conditions: each says them. -/
import Derived.Test.YtpkooeejhbjajaaC2
set_option linter.unusedVariables false
set_option linter.unusedSimpArgs false
set_option maxRecDepth 100000
set_option maxHeartbeats 4000000
namespace Go.Gx.Px
open Go.Proofs Go.RowKit

theorem c_M_IsKept {w0 : World} (a1 : (List Int)) (u1 : Value) (g1 : RO [] w0 u1 a1) (a2 : (Int × Int)) (rr : Bool) (hF : M.IsKept a1 a2 = some rr) :
 Calls Try.prog 21 [u1, (.agg #[(.int .i64 a2.1), (.int .i64 a2.2)])].toArray w0 fun e w' => ∃ v, e = .returned v ∧ Res w0 rr v w' := by
 refine calls_of_W Try.func21 rfl rfl ?_
 have hC0 := Ctx.start w0
 unfold M.IsKept at hF
 refine W_seq_reg ?_
 refine WL_boxK (cs := [(.int .i64 a2.1), (.int .i64 a2.2)]) hC0 rfl rfl rfl (fun b1 w1 hC1 hB1 hN1 => ?_)
 refine WL_assign rfl rfl ?_
 refine WL_nil ?_
 refine W_seq ?_
 obtain ⟨r1, hr1, hF⟩ := bind_some hF
 refine W_cut (fun l w => ∃ x1 : Bool, x1 = r1 ∧ l = [(0, u1), (3, (ptr b1 0)), (14, (.bool x1))] ∧ Below w1.heap.size w1 w ∧ Ctx [] w0 w [Item.box b1 [(.int .i64 a2.1), (.int .i64 a2.2)]]) ?_ ?_
 ·refine W_reg ?_
  refine WL_move rfl rfl ?_
  refine WL_len Try.underlying26 g1 rfl rfl ?_
  refine WL_gtr rfl rfl rfl ?_
  refine WL_move rfl rfl ?_
  refine WL_fork (fun hc1 => ?_) (fun hc1 => ?_)
  ·replace hr1 := ite_t hr1 hc1
   refine WL_guard_skip rfl rfl (by simp) rfl ?_
   refine WL_guard_skip rfl rfl (by simp) rfl ?_
   refine WL_guard_skip rfl rfl (by simp) rfl ?_
   refine WL_pick_t rfl rfl rfl ?_
   refine WL_nil ?_
   have hq1 := Option.some.inj hr1
   subst hq1
   refine nrm_sub (l' := [(0, u1), (3, (ptr b1 0)), (14, (.bool true))]) ⟨rfl, rfl, rfl, trivial⟩ ?_
   exact ⟨true, rfl, rfl, (Below.refl _ _), hC1⟩
  replace hr1 := ite_f hr1 hc1
  refine WL_guard rfl rfl ?_
  refine WL_load_box_agg [(.int .i64 a2.1), (.int .i64 a2.2)] hC1 0 rfl rfl rfl Try.isAgg49 Try.sizeOf49 rfl rfl ?_
  obtain ⟨x2, hr2, hr1⟩ := bind_some hr1
  refine WL_guard rfl rfl ?_
  refine WL_call Try.call34 rfl rfl (c_M_IsWindow (a2.1, a2.2) x2 hr2) ?_
  intro _ w3 hv1
  obtain ⟨rfl, hB3⟩ := res_bool hv1
  have hC3 := hC1.grow hB3
  refine WL_guard rfl rfl ?_
  refine WL_not rfl rfl ?_
  refine WL_pick_f rfl rfl rfl ?_
  refine WL_nil ?_
  have hq2 := Option.some.inj hr1
  subst hq2
  refine nrm_sub (l' := [(0, u1), (3, (ptr b1 0)), (14, (.bool (!x2)))]) ⟨rfl, rfl, rfl, trivial⟩ ?_
  exact ⟨(!x2), rfl, rfl, (Keep.of hB3).below, hC3⟩
 rintro _ w2 ⟨x1, rfl, rfl, hB2, hC2⟩
 try dsimp only at hF
 refine W_cond rfl (fun hc2 => ?_) (fun hc2 => ?_)
 ·replace hF := ite_t hF hc2
  refine W_seq_reg ?_
  refine WL_assign rfl rfl ?_
  refine WL_nil ?_
  refine W_ret ?_
  refine nrm_ret ?_
  have hq3 := Option.some.inj hF
  subst hq3
  refine fn_ret1 rfl rfl ?_
  exact ⟨_, rfl, bool_res hC2 _⟩
 replace hF := ite_f hF hc2
 refine W_skip ?_
 refine nrm_normal ?_
 refine W_seq ?_
 refine W_seq_reg ?_
 refine WL_move rfl rfl ?_
 refine WL_len Try.underlying26 g1 rfl rfl ?_
 refine WL_move rfl rfl ?_
 refine WL_nil ?_
 obtain ⟨r2, hr3, hF⟩ := bind_some hF
 refine W_norm (fun l w => .inl () = r2 ∧ l = [] ∧ Below w2.heap.size w2 w ∧ Ctx [] w0 w []) ?_ ?_
 ·refine W_block ?_
  refine W.sub (l' := [(0, u1), (3, (ptr b1 0)), (15, u1), (16, (.int .i64 (List.length a1 : Int))), (17, (.int .i64 0))]) ?_ ⟨rfl, rfl, rfl, rfl, rfl, trivial⟩
  refine W_loop (fun k l w => ∃ x3 : Int, l = [(0, u1), (3, (ptr b1 0)), (15, u1), (16, (.int .i64 (List.length a1 : Int))), (17, (.int .i64 x3))] ∧ Below w2.heap.size w2 w ∧ Ctx [] w0 w [Item.box b1 [(.int .i64 a2.1), (.int .i64 a2.2)]] ∧ M.IsKept_l1 a1 a2 k x3 = some r2) FUEL ⟨0, rfl, (Below.refl _ _), hC2, hr3⟩ ?_
  clear hr3
  rintro k1 _ w4 ⟨x3, rfl, hB4, hC4, hL1⟩
  cases k1 with
  | zero => rw [M.IsKept_l1] at hL1; cases hL1
  | succ k1 =>
   rw [M.IsKept_l1] at hL1
   refine W_seq_reg ?_
   refine WL_lss rfl rfl rfl ?_
   refine WL_nil ?_
   refine W_seq ?_
   refine W_cond rfl (fun hc3 => ?_) (fun hc3 => ?_)
   ·replace hL1 := ite_t hL1 hc3
    refine W_skip ?_
    refine nrm_normal ?_
    refine W_seq ?_
    refine W_block ?_
    refine W_seq_reg ?_
    refine WL_move rfl rfl ?_
    obtain ⟨x4, hx1, hL1⟩ := bind_some hL1
    refine WL_index Try.underlying26 ty3 g1 hx1 rfl rfl rfl (fun b2 o1 h1 => ?_)
    refine WL_load ty3 h1 hC4.keep rfl rfl (fun v1 h2 => ?_)
    obtain rfl := ro_int h2
    refine WL_assign rfl rfl ?_
    refine WL_assign rfl rfl ?_
    refine WL_nil ?_
    obtain ⟨r3, hr4, hL1⟩ := bind_some hL1
    refine W_cut (fun l w => ∃ x5 : Bool, x5 = r3 ∧ l = [(0, u1), (3, (ptr b1 0)), (15, u1), (16, (.int .i64 (List.length a1 : Int))), (17, (.int .i64 x3)), (47, (.bool x5))] ∧ Below w4.heap.size w4 w ∧ Ctx [] w0 w [Item.box b1 [(.int .i64 a2.1), (.int .i64 a2.2)]]) ?_ ?_
    ·refine W_drawn 26 rfl hmix (fun w6 hB6 => ?_)
     have hC6 := hC4.grow hB6
     refine WA_tk 0 (by kernel_rfl) rfl rfl (fl_move rfl) ?_
     refine WL_move rfl rfl ?_
     refine WL_nil ?_
     obtain ⟨x6, hr5, hr4⟩ := bind_some hr4
     refine WA_one 1 (by kernel_rfl) rfl ?_
     refine WL_call Try.call29 rfl rfl (c_M_isTime x4 x6 hr5) ?_
     intro _ w7 hv2
     obtain ⟨rfl, hB7⟩ := res_bool hv2
     have hC7 := hC6.grow hB7
     refine WL_nil ?_
     refine WA_tk 2 (by kernel_rfl) rfl rfl (fl_not rfl) ?_
     refine WL_not rfl rfl ?_
     refine WL_nil ?_
     refine WA_tk 3 (by kernel_rfl) rfl rfl (fl_move rfl) ?_
     refine WL_move rfl rfl ?_
     refine WL_nil ?_
     refine WA_fork (fun hc4 => ?_) (fun hc4 => ?_)
     ·replace hr4 := ite_t hr4 hc4
      refine WA_sk 4 (by kernel_rfl) rfl rfl rfl rfl (by simp) rfl rfl ?_
      refine WA_sk 5 (by kernel_rfl) rfl rfl rfl rfl (by simp) rfl rfl ?_
      refine WA_sk 6 (by kernel_rfl) rfl rfl rfl rfl (by simp) rfl rfl ?_
      refine WA_sk 7 (by kernel_rfl) rfl rfl rfl rfl (by simp [undef]) rfl rfl ?_
      refine WA_sk 8 (by kernel_rfl) rfl rfl rfl rfl (by simp [undef]) rfl rfl ?_
      refine WA_sk 9 (by kernel_rfl) rfl rfl rfl rfl (by simp [undef]) rfl rfl ?_
      refine WA_sk 10 (by kernel_rfl) rfl rfl rfl rfl (by simp [undef]) rfl rfl ?_
      refine WA_sk 11 (by kernel_rfl) rfl rfl rfl rfl (by simp [undef]) rfl rfl ?_
      refine WA_sk 12 (by kernel_rfl) rfl rfl rfl rfl (by simp [undef]) rfl rfl ?_
      refine WA_sk 13 (by kernel_rfl) rfl rfl rfl rfl (by simp [undef]) rfl rfl ?_
      refine WA_sk 14 (by kernel_rfl) rfl rfl rfl rfl (by simp) rfl rfl ?_
      refine WA_tk 15 (by kernel_rfl) rfl rfl (fl_pick_t rfl rfl) ?_
      refine WL_pick_t rfl rfl rfl ?_
      refine WL_nil ?_
      refine WA_tk 16 (by kernel_rfl) rfl rfl (fl_move rfl) ?_
      refine WL_move rfl rfl ?_
      refine WL_nil ?_
      refine WA_sk 17 (by kernel_rfl) rfl rfl rfl rfl (by simp) rfl rfl ?_
      refine WA_sk 18 (by kernel_rfl) rfl rfl rfl rfl (by simp) rfl rfl ?_
      refine WA_sk 19 (by kernel_rfl) rfl rfl rfl rfl (by simp) rfl rfl ?_
      refine WA_sk 20 (by kernel_rfl) rfl rfl rfl rfl (by simp) rfl rfl ?_
      refine WA_sk 21 (by kernel_rfl) rfl rfl rfl rfl (by simp) rfl rfl ?_
      refine WA_sk 22 (by kernel_rfl) rfl rfl rfl rfl (by simp) rfl rfl ?_
      refine WA_sk 23 (by kernel_rfl) rfl rfl rfl rfl (by simp) rfl rfl ?_
      refine WA_sk 24 (by kernel_rfl) rfl rfl rfl rfl (by simp) rfl rfl ?_
      refine WA_tk 25 (by kernel_rfl) rfl rfl (fl_pick_t rfl rfl) ?_
      refine WL_pick_t rfl rfl rfl ?_
      refine WL_nil ?_
      refine WA_done (by kernel_rfl) ?_
      have hq4 := Option.some.inj hr4
      subst hq4
      refine nrm_sub (l' := [(0, u1), (3, (ptr b1 0)), (15, u1), (16, (.int .i64 (List.length a1 : Int))), (17, (.int .i64 x3)), (47, (.bool true))]) ⟨rfl, rfl, rfl, rfl, rfl, rfl, trivial⟩ ?_
      exact ⟨true, rfl, rfl, ((Keep.of hB6).then hB7).below, hC7⟩
     replace hr4 := ite_f hr4 hc4
     refine WA_takeG 4 rfl (by kernel_rfl) (by kernel_rfl) (by kernel_rfl) rfl rfl rfl (fl_move rfl) ?_
     refine WL_guard rfl rfl ?_
     refine WL_move rfl rfl ?_
     refine WL_nil ?_
     refine WA_takeG 5 rfl (by kernel_rfl) (by kernel_rfl) (by kernel_rfl) rfl rfl rfl (fl_gtr rfl rfl) ?_
     refine WL_guard rfl rfl ?_
     refine WL_gtr rfl rfl rfl ?_
     refine WL_nil ?_
     refine WA_takeG 6 rfl (by kernel_rfl) (by kernel_rfl) (by kernel_rfl) rfl rfl rfl (fl_move rfl) ?_
     refine WL_guard rfl rfl ?_
     refine WL_move rfl rfl ?_
     refine WL_nil ?_
     refine WA_fork (fun hc5 => ?_) (fun hc5 => ?_)
     ·replace hr4 := ite_t hr4 hc5
      refine WA_takeG 7 rfl (by kernel_rfl) (by kernel_rfl) (by kernel_rfl) rfl rfl rfl (fl_move rfl) ?_
      refine WL_guard rfl rfl ?_
      refine WL_move rfl rfl ?_
      refine WL_nil ?_
      refine WA_takeG 8 rfl (by kernel_rfl) (by kernel_rfl) (by kernel_rfl) rfl rfl rfl (fl_move rfl) ?_
      refine WL_guard rfl rfl ?_
      refine WL_move rfl rfl ?_
      refine WL_nil ?_
      refine WA_takeG 9 rfl (by kernel_rfl) (by kernel_rfl) (by kernel_rfl) rfl rfl rfl (fl_move rfl) ?_
      refine WL_guard rfl rfl ?_
      refine WL_move rfl rfl ?_
      refine WL_nil ?_
      refine WA_takeG 10 rfl (by kernel_rfl) (by kernel_rfl) (by kernel_rfl) rfl rfl rfl (fl_sub rfl rfl) ?_
      refine WL_guard rfl rfl ?_
      refine WL_sub rfl rfl rfl ?_
      refine WL_nil ?_
      obtain ⟨x7, hx2, hr4⟩ := bind_some hr4
      refine WA_takeG 11 rfl (by kernel_rfl) (by kernel_rfl) (by kernel_rfl) rfl rfl rfl (fl_index Try.underlying26 ty3 g1 hx2 rfl rfl) ?_
      refine WL_guard rfl rfl ?_
      refine WL_index Try.underlying26 ty3 g1 hx2 rfl rfl rfl (fun b3 o2 h3 => ?_)
      refine WL_nil ?_
      refine WA_one 12 (by kernel_rfl) rfl ?_
      refine WL_guard rfl rfl ?_
      refine WL_load ty3 h3 hC7.keep rfl rfl (fun v2 h4 => ?_)
      obtain rfl := ro_int h4
      refine WL_nil ?_
      refine WA_takeG 13 rfl (by kernel_rfl) (by kernel_rfl) (by kernel_rfl) rfl rfl rfl (fl_lss rfl rfl) ?_
      refine WL_guard rfl rfl ?_
      refine WL_lss rfl rfl rfl ?_
      refine WL_nil ?_
      refine WA_takeG 14 rfl (by kernel_rfl) (by kernel_rfl) (by kernel_rfl) rfl rfl rfl (fl_pick_t rfl rfl) ?_
      refine WL_guard rfl rfl ?_
      refine WL_pick_t rfl rfl rfl ?_
      refine WL_nil ?_
      refine WA_tk 15 (by kernel_rfl) rfl rfl (fl_pick_f rfl rfl) ?_
      refine WL_pick_f rfl rfl rfl ?_
      refine WL_nil ?_
      refine WA_tk 16 (by kernel_rfl) rfl rfl (fl_move rfl) ?_
      refine WL_move rfl rfl ?_
      refine WL_nil ?_
      refine WA_fork (fun hc6 => ?_) (fun hc6 => ?_)
      ·replace hr4 := ite_t hr4 hc6
       refine WA_sk 17 (by kernel_rfl) rfl rfl rfl rfl (by simp) rfl rfl ?_
       refine WA_sk 18 (by kernel_rfl) rfl rfl rfl rfl (by simp) rfl rfl ?_
       refine WA_sk 19 (by kernel_rfl) rfl rfl rfl rfl (by simp) rfl rfl ?_
       refine WA_sk 20 (by kernel_rfl) rfl rfl rfl rfl (by simp) rfl rfl ?_
       refine WA_sk 21 (by kernel_rfl) rfl rfl rfl rfl (by simp) rfl rfl ?_
       refine WA_sk 22 (by kernel_rfl) rfl rfl rfl rfl (by simp) rfl rfl ?_
       refine WA_sk 23 (by kernel_rfl) rfl rfl rfl rfl (by simp) rfl rfl ?_
       refine WA_sk 24 (by kernel_rfl) rfl rfl rfl rfl (by simp) rfl rfl ?_
       refine WA_tk 25 (by kernel_rfl) rfl rfl (fl_pick_t rfl rfl) ?_
       refine WL_pick_t rfl rfl rfl ?_
       refine WL_nil ?_
       refine WA_done (by kernel_rfl) ?_
       have hq5 := Option.some.inj hr4
       subst hq5
       refine nrm_sub (l' := [(0, u1), (3, (ptr b1 0)), (15, u1), (16, (.int .i64 (List.length a1 : Int))), (17, (.int .i64 x3)), (47, (.bool true))]) ⟨rfl, rfl, rfl, rfl, rfl, rfl, trivial⟩ ?_
       exact ⟨true, rfl, rfl, ((Keep.of hB6).then hB7).below, hC7⟩
      replace hr4 := ite_f hr4 hc6
      refine WA_takeG 17 rfl (by kernel_rfl) (by kernel_rfl) (by kernel_rfl) rfl rfl rfl (fl_move rfl) ?_
      refine WL_guard rfl rfl ?_
      refine WL_move rfl rfl ?_
      refine WL_nil ?_
      refine WA_takeG 18 rfl (by kernel_rfl) (by kernel_rfl) (by kernel_rfl) rfl rfl rfl (fl_move rfl) ?_
      refine WL_guard rfl rfl ?_
      refine WL_move rfl rfl ?_
      refine WL_nil ?_
      refine WA_takeG 19 rfl (by kernel_rfl) (by kernel_rfl) (by kernel_rfl) rfl rfl rfl (fl_field Try.underlying49 rfl rfl (fun w => ⟨_, Try.sizeOf3 w⟩) rfl) ?_
      refine WL_guard rfl rfl ?_
      refine WL_field Try.underlying49 rfl rfl (fun w => ⟨_, Try.sizeOf3 w⟩) rfl rfl ?_
      refine WL_nil ?_
      refine WA_takeG 22 rfl (by kernel_rfl) (by kernel_rfl) (by kernel_rfl) rfl rfl rfl (fl_field Try.underlying49 rfl rfl (fun w => ⟨_, Try.sizeOf3 w⟩) rfl) ?_
      refine WL_guard rfl rfl ?_
      refine WL_field Try.underlying49 rfl rfl (fun w => ⟨_, Try.sizeOf3 w⟩) rfl rfl ?_
      refine WL_nil ?_
      obtain ⟨x8, hr6, hr4⟩ := bind_some hr4
      refine WA.sub (l' := [(0, u1), (3, (ptr b1 0)), (5, (.int .i64 x3)), (6, (.int .i64 x4)), (15, u1), (16, (.int .i64 (List.length a1 : Int))), (17, (.int .i64 x3)), (18, (.bool (decide (x3 < (List.length a1 : Int))))), (19, (.int .i64 x3)), (20, (ptr b2 o1)), (21, (.int .i64 x4)), (22, (.int .i64 x4)), (23, (.bool x6)), (24, (.bool (!x6))), (25, (.bool false)), (26, (.int .i64 x3)), (27, (.bool (decide (0 < x3)))), (28, (.bool true)), (29, (.int .i64 x4)), (30, u1), (31, (.int .i64 x3)), (32, (.int .i64 (w64 (x3 - 1)))), (33, (ptr b3 o2)), (34, (.int .i64 x7)), (35, (.bool (decide (x4 < x7)))), (36, (.bool (decide (x4 < x7)))), (37, (.bool (decide (x4 < x7)))), (38, (.bool false)), (39, u1), (40, (.int .i64 x4)), (41, (ptr b1 0)), (44, (ptr b1 1))]) ?_ ⟨rfl, rfl, rfl, rfl, rfl, rfl, rfl, rfl, rfl, rfl, rfl, rfl, rfl, rfl, rfl, rfl, rfl, rfl, rfl, rfl, rfl, rfl, rfl, rfl, rfl, rfl, rfl, rfl, rfl, rfl, rfl, rfl, trivial⟩
      refine WA_postsE [⟨20, [], fun vs => PW.val (.int .i64 a2.1), []⟩, ⟨21, [], fun vs => PW.val (.int .i64 x8), []⟩, ⟨23, [], fun vs => PW.val (.int .i64 a2.2), []⟩] [[], [20], []] 2 rfl (by kernel_rfl) (by kernel_rfl) rfl ?_ ?_
      ·refine StepsE_cons rfl ?_ ?_
       ·intro w10 hB9
        refine DepsE_nil ?_
        refine ⟨_, rfl, ?_⟩
        refine WL_guard rfl rfl ?_
        refine WL_load_box (hC7.grow hB9) 0 rfl rfl Try.isAgg3 rfl rfl ?_
        refine WL_nil ?_
        exact FinE_val (Below.refl _ _) rfl rfl ⟨rfl, rfl⟩
       refine StepsE_cons rfl ?_ ?_
       ·intro w10 hB9
        refine DepsE_cons rfl rfl rfl ?_
        rintro _ _ ⟨rfl, rfl⟩ _
        refine DepsE_nil ?_
        refine ⟨_, rfl, ?_⟩
        refine WL_guard rfl rfl ?_
        refine WL_call Try.call35 rfl rfl (c_M_CallsIn a1 u1 (g1.now (hC7.keep.then hB9)) x4 a2.1 x8 hr6) ?_
        intro _ w9 hv3
        obtain ⟨rfl, hB8⟩ := res_int hv3
        refine WL_nil ?_
        exact FinE_val hB8 rfl rfl ⟨rfl, rfl⟩
       refine StepsE_cons rfl ?_ ?_
       ·intro w10 hB9
        refine DepsE_nil ?_
        refine ⟨_, rfl, ?_⟩
        refine WL_guard rfl rfl ?_
        refine WL_load_box (hC7.grow hB9) 0 rfl rfl Try.isAgg3 rfl rfl ?_
        refine WL_nil ?_
        exact FinE_val (Below.refl _ _) rfl rfl ⟨rfl, rfl⟩
       exact StepsE_nil
      intro w11 hB10
      refine AllE_cons rfl rfl rfl ?_
      rintro _ _ ⟨rfl, rfl⟩
      refine AllE_cons rfl rfl rfl ?_
      rintro _ _ ⟨rfl, rfl⟩
      refine AllE_cons rfl rfl rfl ?_
      rintro _ _ ⟨rfl, rfl⟩
      refine AllE_nil ?_
      intro hn1 hb1
      have hC8 := hC7.grow hB10
      refine WA_takeG 24 rfl (by kernel_rfl) (by kernel_rfl) (by kernel_rfl) rfl rfl rfl (fl_gtr rfl rfl) ?_
      refine WL_guard rfl rfl ?_
      refine WL_gtr rfl rfl rfl ?_
      refine WL_nil ?_
      refine WA_tk 25 (by kernel_rfl) rfl rfl (fl_pick_f rfl rfl) ?_
      refine WL_pick_f rfl rfl rfl ?_
      refine WL_nil ?_
      refine WA_done (by kernel_rfl) ?_
      have hq6 := Option.some.inj hr4
      subst hq6
      refine nrm_sub (l' := [(0, u1), (3, (ptr b1 0)), (15, u1), (16, (.int .i64 (List.length a1 : Int))), (17, (.int .i64 x3)), (47, (.bool (decide (a2.2 < x8))))]) ⟨rfl, rfl, rfl, rfl, rfl, rfl, trivial⟩ ?_
      exact ⟨(decide (a2.2 < x8)), rfl, rfl, (((Keep.of hB6).then hB7).then hB10).below, hC8⟩
     replace hr4 := ite_f hr4 hc5
     refine WA_sk 7 (by kernel_rfl) rfl rfl rfl rfl (by simp) rfl rfl ?_
     refine WA_sk 8 (by kernel_rfl) rfl rfl rfl rfl (by simp) rfl rfl ?_
     refine WA_sk 9 (by kernel_rfl) rfl rfl rfl rfl (by simp) rfl rfl ?_
     refine WA_sk 10 (by kernel_rfl) rfl rfl rfl rfl (by simp) rfl rfl ?_
     refine WA_sk 11 (by kernel_rfl) rfl rfl rfl rfl (by simp) rfl rfl ?_
     refine WA_sk 12 (by kernel_rfl) rfl rfl rfl rfl (by simp) rfl rfl ?_
     refine WA_sk 13 (by kernel_rfl) rfl rfl rfl rfl (by simp) rfl rfl ?_
     refine WA_takeG 14 rfl (by kernel_rfl) (by kernel_rfl) (by kernel_rfl) rfl rfl rfl (fl_pick_f rfl rfl) ?_
     refine WL_guard rfl rfl ?_
     refine WL_pick_f rfl rfl rfl ?_
     refine WL_nil ?_
     refine WA_tk 15 (by kernel_rfl) rfl rfl (fl_pick_f rfl rfl) ?_
     refine WL_pick_f rfl rfl rfl ?_
     refine WL_nil ?_
     refine WA_tk 16 (by kernel_rfl) rfl rfl (fl_move rfl) ?_
     refine WL_move rfl rfl ?_
     refine WL_nil ?_
     refine WA_takeG 17 rfl (by kernel_rfl) (by kernel_rfl) (by kernel_rfl) rfl rfl rfl (fl_move rfl) ?_
     refine WL_guard rfl rfl ?_
     refine WL_move rfl rfl ?_
     refine WL_nil ?_
     refine WA_takeG 18 rfl (by kernel_rfl) (by kernel_rfl) (by kernel_rfl) rfl rfl rfl (fl_move rfl) ?_
     refine WL_guard rfl rfl ?_
     refine WL_move rfl rfl ?_
     refine WL_nil ?_
     refine WA_takeG 19 rfl (by kernel_rfl) (by kernel_rfl) (by kernel_rfl) rfl rfl rfl (fl_field Try.underlying49 rfl rfl (fun w => ⟨_, Try.sizeOf3 w⟩) rfl) ?_
     refine WL_guard rfl rfl ?_
     refine WL_field Try.underlying49 rfl rfl (fun w => ⟨_, Try.sizeOf3 w⟩) rfl rfl ?_
     refine WL_nil ?_
     refine WA_takeG 22 rfl (by kernel_rfl) (by kernel_rfl) (by kernel_rfl) rfl rfl rfl (fl_field Try.underlying49 rfl rfl (fun w => ⟨_, Try.sizeOf3 w⟩) rfl) ?_
     refine WL_guard rfl rfl ?_
     refine WL_field Try.underlying49 rfl rfl (fun w => ⟨_, Try.sizeOf3 w⟩) rfl rfl ?_
     refine WL_nil ?_
     obtain ⟨x9, hr7, hr4⟩ := bind_some hr4
     refine WA.sub (l' := [(0, u1), (3, (ptr b1 0)), (5, (.int .i64 x3)), (6, (.int .i64 x4)), (15, u1), (16, (.int .i64 (List.length a1 : Int))), (17, (.int .i64 x3)), (18, (.bool (decide (x3 < (List.length a1 : Int))))), (19, (.int .i64 x3)), (20, (ptr b2 o1)), (21, (.int .i64 x4)), (22, (.int .i64 x4)), (23, (.bool x6)), (24, (.bool (!x6))), (25, (.bool false)), (26, (.int .i64 x3)), (27, (.bool (decide (0 < x3)))), (28, (.bool false)), (36, (.bool false)), (37, (.bool false)), (38, (.bool false)), (39, u1), (40, (.int .i64 x4)), (41, (ptr b1 0)), (44, (ptr b1 1))]) ?_ ⟨rfl, rfl, rfl, rfl, rfl, rfl, rfl, rfl, rfl, rfl, rfl, rfl, rfl, rfl, rfl, rfl, rfl, rfl, rfl, rfl, rfl, rfl, rfl, rfl, rfl, trivial⟩
     refine WA_postsE [⟨20, [], fun vs => PW.val (.int .i64 a2.1), []⟩, ⟨21, [], fun vs => PW.val (.int .i64 x9), []⟩, ⟨23, [], fun vs => PW.val (.int .i64 a2.2), []⟩] [[], [20], []] 2 rfl (by kernel_rfl) (by kernel_rfl) rfl ?_ ?_
     ·refine StepsE_cons rfl ?_ ?_
      ·intro w13 hB12
       refine DepsE_nil ?_
       refine ⟨_, rfl, ?_⟩
       refine WL_guard rfl rfl ?_
       refine WL_load_box (hC7.grow hB12) 0 rfl rfl Try.isAgg3 rfl rfl ?_
       refine WL_nil ?_
       exact FinE_val (Below.refl _ _) rfl rfl ⟨rfl, rfl⟩
      refine StepsE_cons rfl ?_ ?_
      ·intro w13 hB12
       refine DepsE_cons rfl rfl rfl ?_
       rintro _ _ ⟨rfl, rfl⟩ _
       refine DepsE_nil ?_
       refine ⟨_, rfl, ?_⟩
       refine WL_guard rfl rfl ?_
       refine WL_call Try.call35 rfl rfl (c_M_CallsIn a1 u1 (g1.now (hC7.keep.then hB12)) x4 a2.1 x9 hr7) ?_
       intro _ w12 hv4
       obtain ⟨rfl, hB11⟩ := res_int hv4
       refine WL_nil ?_
       exact FinE_val hB11 rfl rfl ⟨rfl, rfl⟩
      refine StepsE_cons rfl ?_ ?_
      ·intro w13 hB12
       refine DepsE_nil ?_
       refine ⟨_, rfl, ?_⟩
       refine WL_guard rfl rfl ?_
       refine WL_load_box (hC7.grow hB12) 0 rfl rfl Try.isAgg3 rfl rfl ?_
       refine WL_nil ?_
       exact FinE_val (Below.refl _ _) rfl rfl ⟨rfl, rfl⟩
      exact StepsE_nil
     intro w14 hB13
     refine AllE_cons rfl rfl rfl ?_
     rintro _ _ ⟨rfl, rfl⟩
     refine AllE_cons rfl rfl rfl ?_
     rintro _ _ ⟨rfl, rfl⟩
     refine AllE_cons rfl rfl rfl ?_
     rintro _ _ ⟨rfl, rfl⟩
     refine AllE_nil ?_
     intro hn2 hb2
     have hC9 := hC7.grow hB13
     refine WA_takeG 24 rfl (by kernel_rfl) (by kernel_rfl) (by kernel_rfl) rfl rfl rfl (fl_gtr rfl rfl) ?_
     refine WL_guard rfl rfl ?_
     refine WL_gtr rfl rfl rfl ?_
     refine WL_nil ?_
     refine WA_tk 25 (by kernel_rfl) rfl rfl (fl_pick_f rfl rfl) ?_
     refine WL_pick_f rfl rfl rfl ?_
     refine WL_nil ?_
     refine WA_done (by kernel_rfl) ?_
     have hq7 := Option.some.inj hr4
     subst hq7
     refine nrm_sub (l' := [(0, u1), (3, (ptr b1 0)), (15, u1), (16, (.int .i64 (List.length a1 : Int))), (17, (.int .i64 x3)), (47, (.bool (decide (a2.2 < x9))))]) ⟨rfl, rfl, rfl, rfl, rfl, rfl, trivial⟩ ?_
     exact ⟨(decide (a2.2 < x9)), rfl, rfl, (((Keep.of hB6).then hB7).then hB13).below, hC9⟩
    rintro _ w5 ⟨x5, rfl, rfl, hB5, hC5⟩
    try dsimp only at hL1
    refine W_cond rfl (fun hc7 => ?_) (fun hc7 => ?_)
    ·replace hL1 := ite_t hL1 hc7
     refine W_seq_reg ?_
     refine WL_assign rfl rfl ?_
     refine WL_nil ?_
     refine W_ret ?_
     refine blk_ret ?_
     refine nrm_ret ?_
     refine nrm_ret ?_
     refine blk_ret ?_
     refine nrm_ret ?_
     refine nrm_ret ?_
     have hq8 := Option.some.inj hL1
     subst hq8
     dsimp only at hF
     have hq9 := Option.some.inj hF
     subst hq9
     refine fn_ret1 rfl rfl ?_
     exact ⟨_, rfl, bool_res hC5 _⟩
    replace hL1 := ite_f hL1 hc7
    refine W_skip ?_
    refine blk_normal ?_
    refine nrm_normal ?_
    refine W_reg ?_
    refine WL_add rfl rfl rfl ?_
    refine WL_move rfl rfl ?_
    refine WL_nil ?_
    refine nrm_sub (l' := [(0, u1), (3, (ptr b1 0)), (15, u1), (16, (.int .i64 (List.length a1 : Int))), (17, (.int .i64 (w64 (x3 + 1))))]) ⟨rfl, rfl, rfl, rfl, rfl, trivial⟩ ?_
    exact ⟨k1, Nat.lt_succ_self _, w64 (x3 + 1), rfl, ((Keep.of hB4).then hB5).below, hC5, hL1⟩
   replace hL1 := ite_f hL1 hc3
   refine W_exit ?_
   refine nrm_exit ?_
   refine nrm_exit ?_
   refine blk_exit ?_
   have hq10 := Option.some.inj hL1
   subst hq10
   have hC10 := hC4.h0
   refine nrm_sub (l' := []) trivial ?_
   exact ⟨rfl, rfl, (Keep.of hB4).below, hC10⟩
 rintro l4 _ w15 hs4 ⟨rfl, rfl, hB14, hC11⟩
 try dsimp only at hF
 refine nrm_sub' hs4 ?_
 clear hs4
 refine W_seq_reg ?_
 refine WL_assign rfl rfl ?_
 refine WL_nil ?_
 refine W_ret ?_
 have hq11 := Option.some.inj hF
 subst hq11
 refine fn_ret1 rfl rfl ?_
 exact ⟨_, rfl, bool_res hC11 _⟩

theorem c_Q_FnSchedules {w0 : World} (a1 : (List UInt8)) (u1 : Value) (g1 : RO [] w0 u1 a1) (rr : Bool) (hF : Q.FnSchedules a1 = some rr) :
 Calls Try.prog 4 [u1].toArray w0 fun e w' => ∃ v, e = .returned v ∧ Res w0 rr v w' := by
 refine calls_of_W Try.func4 rfl rfl ?_
 have hC0 := Ctx.start w0
 unfold Q.FnSchedules at hF
 refine W_seq_reg ?_
 refine WL_assign rfl rfl ?_
 refine WL_nil ?_
 refine W_seq ?_
 refine W_seq_reg ?_
 refine WL_move rfl rfl ?_
 obtain ⟨x1, hr1, hF⟩ := bind_some hF
 refine WL_call Try.call18 rfl rfl (c_Q_big a1 u1 (g1.now hC0.keep) x1 hr1) ?_
 intro _ w1 hv1
 obtain ⟨rfl, hB1⟩ := res_bool hv1
 have hC1 := hC0.grow hB1
 refine WL_nil ?_
 refine W_cond rfl (fun hc1 => ?_) (fun hc1 => ?_)
 ·replace hF := ite_t hF hc1
  refine W_seq_reg ?_
  refine WL_assign rfl rfl ?_
  refine WL_nil ?_
  refine W_ret ?_
  refine nrm_ret ?_
  have hq1 := Option.some.inj hF
  subst hq1
  refine fn_ret1 rfl rfl ?_
  exact ⟨_, rfl, bool_res hC1 _⟩
 replace hF := ite_f hF hc1
 refine W_skip ?_
 refine nrm_normal ?_
 refine W_seq_reg ?_
 refine WL_move rfl rfl ?_
 obtain ⟨x2, hr2, hF⟩ := bind_some hF
 refine WL_call Try.call19 rfl rfl (c_S_DrawScheduleLog a1 u1 (g1.now hC1.keep) x2 hr2) ?_
 rintro _ w2 ⟨v1, v2, rfl, hq2⟩
 have hC2 : Ctx [] w0 w2 [Item.own v1 (x2.1 : (List (Int × (List Int) × Int × Int × Int))), Item.own v2 (x2.2.1 : (List (Int × (List Int))))] := hC1.push2 hq2
 refine WL_move rfl rfl ?_
 refine WL_extract rfl rfl rfl ?_
 refine WL_extract rfl rfl rfl ?_
 refine WL_extract rfl rfl rfl ?_
 refine WL_extract rfl rfl rfl ?_
 refine WL_assign rfl rfl ?_
 refine WL_assign rfl rfl ?_
 refine WL_assign rfl rfl ?_
 refine WL_assign rfl rfl ?_
 refine WL_nil ?_
 refine W_seq_reg ?_
 refine WL_move rfl rfl ?_
 refine WL_move rfl rfl ?_
 refine WL_move rfl rfl ?_
 refine WL_move rfl rfl ?_
 obtain ⟨x3, hr3, hF⟩ := bind_some hF
 refine WL_call Try.call10 rfl rfl (c_M_ScheduleLog x2.1 v1 ((hC2.ro 0 rfl).now (Keep.refl _ _)) x2.2.1 v2 ((hC2.ro 1 rfl).now (Keep.refl _ _)) x2.2.2.1 x2.2.2.2 x3 hr3) ?_
 rintro _ w3 ⟨hB2, v3, v4, F1, F2, rfl, hv2, hv3, hn2, hb2⟩
 obtain ⟨rfl, rfl⟩ := val_bool hv3
 have hC3 := hC2.pushL hB2 (Bs := [Item.own v3 x3.1]) (Fs := [F1]) ⟨F1, _, rfl, hv2, rfl⟩ (by simpa using hn2) (fun b h => hb2 b (by simpa using h))
 refine WL_move rfl rfl ?_
 refine WL_extract rfl rfl rfl ?_
 refine WL_extract rfl rfl rfl ?_
 refine WL_assign rfl rfl ?_
 refine WL_assign rfl rfl ?_
 refine WL_nil ?_
 refine W_seq_reg ?_
 refine WL_move rfl rfl ?_
 refine WL_move rfl rfl ?_
 refine WL_move rfl rfl ?_
 refine WL_move rfl rfl ?_
 obtain ⟨x4, hr4, hF⟩ := bind_some hF
 refine WL_call Try.call7 rfl rfl (c_S_ScheduleLog x2.1 v1 ((hC3.ro 1 rfl).now (Keep.refl _ _)) x2.2.1 v2 ((hC3.ro 2 rfl).now (Keep.refl _ _)) x2.2.2.1 x2.2.2.2 x4 hr4) ?_
 rintro _ w4 ⟨hB3, v5, v6, F3, F4, rfl, hv4, hv5, hn3, hb3⟩
 obtain ⟨rfl, rfl⟩ := val_bool hv5
 have hC4 := hC3.pushL hB3 (Bs := [Item.own v5 x4.1]) (Fs := [F3]) ⟨F3, _, rfl, hv4, rfl⟩ (by simpa using hn3) (fun b h => hb3 b (by simpa using h))
 refine WL_move rfl rfl ?_
 refine WL_extract rfl rfl rfl ?_
 refine WL_extract rfl rfl rfl ?_
 refine WL_assign rfl rfl ?_
 refine WL_assign rfl rfl ?_
 refine WL_nil ?_
 refine W_seq ?_
 obtain ⟨r1, hr5, hF⟩ := bind_some hF
 refine W_cut (fun l w => ∃ x5 : Bool, x5 = r1 ∧ l = [(3, v1), (4, v2), (5, (.int .i64 x2.2.2.1)), (6, (.int .i64 x2.2.2.2)), (8, (.bool x3.2)), (9, v5), (49, (.bool x5))] ∧ Below w4.heap.size w4 w ∧ Ctx [] w0 w [Item.own v5 (x4.1 : (List Int)), Item.own v1 (x2.1 : (List (Int × (List Int) × Int × Int × Int))), Item.own v2 (x2.2.1 : (List (Int × (List Int))))]) ?_ ?_
 ·refine W_reg ?_
  refine WL_move rfl rfl ?_
  refine WL_move rfl rfl ?_
  refine WL_bool_neq Try.underlying4 rfl rfl rfl ?_
  refine WL_move rfl rfl ?_
  refine WL_fork (fun hc2 => ?_) (fun hc2 => ?_)
  ·replace hr5 := ite_t hr5 hc2
   refine WL_guard_skip rfl rfl (by simp) rfl ?_
   refine WL_guard_skip rfl rfl (by simp) rfl ?_
   refine WL_guard_skip rfl rfl (by simp) rfl ?_
   refine WL_guard_skip rfl rfl (by simp) rfl ?_
   refine WL_pick_t rfl rfl rfl ?_
   refine WL_nil ?_
   have hq3 := Option.some.inj hr5
   subst hq3
   have hC6 := hC4.f3
   have hC7 := hC6.f3
   have hC8 := hC7.f2
   have hC9 := hC8.h3
   refine nrm_sub (l' := [(3, v1), (4, v2), (5, (.int .i64 x2.2.2.1)), (6, (.int .i64 x2.2.2.2)), (8, (.bool x3.2)), (9, v5), (49, (.bool true))]) ⟨rfl, rfl, rfl, rfl, rfl, rfl, rfl, trivial⟩ ?_
   exact ⟨true, rfl, rfl, (Below.refl _ _), hC9⟩
  replace hr5 := ite_f hr5 hc2
  refine WL_guard rfl rfl ?_
  refine WL_move rfl rfl ?_
  refine WL_guard rfl rfl ?_
  refine WL_move rfl rfl ?_
  obtain ⟨x6, hr6, hr5⟩ := bind_some hr5
  refine WL_guard rfl rfl ?_
  refine WL_call Try.call20 rfl rfl (c_Q_sameInts x3.1 v3 ((hC4.ro 1 rfl).now (Keep.refl _ _)) x4.1 v5 ((hC4.ro 0 rfl).now (Keep.refl _ _)) x6 hr6) ?_
  intro _ w6 hv6
  obtain ⟨rfl, hB5⟩ := res_bool hv6
  have hC10 := hC4.grow hB5
  refine WL_guard rfl rfl ?_
  refine WL_not rfl rfl ?_
  refine WL_pick_f rfl rfl rfl ?_
  refine WL_nil ?_
  have hq4 := Option.some.inj hr5
  subst hq4
  have hC11 := hC10.f3
  have hC12 := hC11.f3
  have hC13 := hC12.f2
  have hC14 := hC13.h3
  refine nrm_sub (l' := [(3, v1), (4, v2), (5, (.int .i64 x2.2.2.1)), (6, (.int .i64 x2.2.2.2)), (8, (.bool x3.2)), (9, v5), (49, (.bool (!x6)))]) ⟨rfl, rfl, rfl, rfl, rfl, rfl, rfl, trivial⟩ ?_
  exact ⟨(!x6), rfl, rfl, (Keep.of hB5).below, hC14⟩
 rintro _ w5 ⟨x5, rfl, rfl, hB4, hC5⟩
 try dsimp only at hF
 refine W_cond rfl (fun hc3 => ?_) (fun hc3 => ?_)
 ·replace hF := ite_t hF hc3
  refine W_seq_reg ?_
  refine WL_assign rfl rfl ?_
  refine WL_nil ?_
  refine W_ret ?_
  refine nrm_ret ?_
  have hq5 := Option.some.inj hF
  subst hq5
  refine fn_ret1 rfl rfl ?_
  exact ⟨_, rfl, bool_res hC5 _⟩
 replace hF := ite_f hF hc3
 refine W_skip ?_
 refine nrm_normal ?_
 refine W_seq ?_
 refine W_seq_reg ?_
 refine WL_assign rfl rfl ?_
 refine WL_nil ?_
 obtain ⟨r2, hr7, hF⟩ := bind_some hF
 refine W_norm (fun l w => .inl () = r2 ∧ l = [(3, v1), (4, v2), (5, (.int .i64 x2.2.2.1)), (8, (.bool x3.2)), (9, v5)] ∧ Below w5.heap.size w5 w ∧ Ctx [] w0 w [Item.own v5 (x4.1 : (List Int)), Item.own v1 (x2.1 : (List (Int × (List Int) × Int × Int × Int))), Item.own v2 (x2.2.1 : (List (Int × (List Int))))]) ?_ ?_
 ·refine W_block ?_
  refine W.sub (l' := [(3, v1), (4, v2), (5, (.int .i64 x2.2.2.1)), (6, (.int .i64 x2.2.2.2)), (8, (.bool x3.2)), (9, v5), (11, (.int .i64 0))]) ?_ ⟨rfl, rfl, rfl, rfl, rfl, rfl, rfl, trivial⟩
  refine W_loop (fun k l w => ∃ x7 : Int, l = [(3, v1), (4, v2), (5, (.int .i64 x2.2.2.1)), (6, (.int .i64 x2.2.2.2)), (8, (.bool x3.2)), (9, v5), (11, (.int .i64 x7))] ∧ Below w5.heap.size w5 w ∧ Ctx [] w0 w [Item.own v5 (x4.1 : (List Int)), Item.own v1 (x2.1 : (List (Int × (List Int) × Int × Int × Int))), Item.own v2 (x2.2.1 : (List (Int × (List Int))))] ∧ Q.FnSchedules_l1 x4 x2 k x7 = some r2) FUEL ⟨0, rfl, (Below.refl _ _), hC5, hr7⟩ ?_
  clear hr7
  rintro k1 _ w7 ⟨x7, rfl, hB6, hC15, hL1⟩
  cases k1 with
  | zero => rw [Q.FnSchedules_l1] at hL1; cases hL1
  | succ k1 =>
   rw [Q.FnSchedules_l1] at hL1
   refine W_seq ?_
   refine W_seq_reg ?_
   refine WL_move rfl rfl ?_
   refine WL_move rfl rfl ?_
   refine WL_len Try.underlying26 (hC15.ro 0 rfl) rfl rfl ?_
   refine WL_lss rfl rfl rfl ?_
   refine WL_nil ?_
   refine W_cond rfl (fun hc4 => ?_) (fun hc4 => ?_)
   ·replace hL1 := ite_t hL1 hc4
    refine W_skip ?_
    refine nrm_normal ?_
    refine W_seq ?_
    refine W_block ?_
    obtain ⟨r3, hr8, hL1⟩ := bind_some hL1
    refine W_cut (fun l w => ∃ x8 : Bool, x8 = r3 ∧ l = [(3, v1), (4, v2), (5, (.int .i64 x2.2.2.1)), (6, (.int .i64 x2.2.2.2)), (8, (.bool x3.2)), (9, v5), (11, (.int .i64 x7)), (77, (.bool x8))] ∧ Below w7.heap.size w7 w ∧ Ctx [] w0 w [Item.own v5 (x4.1 : (List Int)), Item.own v1 (x2.1 : (List (Int × (List Int) × Int × Int × Int))), Item.own v2 (x2.2.1 : (List (Int × (List Int))))]) ?_ ?_
    ·refine W_drawn 22 rfl hmix (fun w10 hB8 => ?_)
     have hC17 := hC15.grow hB8
     refine WA_tk 0 (by kernel_rfl) rfl rfl (fl_move rfl) ?_
     refine WL_move rfl rfl ?_
     refine WL_nil ?_
     refine WA_tk 1 (by kernel_rfl) rfl rfl (fl_move rfl) ?_
     refine WL_move rfl rfl ?_
     refine WL_nil ?_
     obtain ⟨x9, hx1, hr8⟩ := bind_some hr8
     refine WA_tk 2 (by kernel_rfl) rfl rfl (fl_index Try.underlying26 ty3 (hC17.ro 0 rfl) hx1 rfl rfl) ?_
     refine WL_index Try.underlying26 ty3 (hC17.ro 0 rfl) hx1 rfl rfl rfl (fun b1 o1 h1 => ?_)
     refine WL_nil ?_
     refine WA_tk 4 (by kernel_rfl) rfl rfl (fl_move rfl) ?_
     refine WL_move rfl rfl ?_
     refine WL_nil ?_
     refine WA_one 3 (by kernel_rfl) rfl ?_
     refine WL_load ty3 h1 (Keep.refl _ _) rfl rfl (fun v7 h2 => ?_)
     obtain rfl := ro_int h2
     refine WL_nil ?_
     refine WA_tk 5 (by kernel_rfl) rfl rfl (fl_lss rfl rfl) ?_
     refine WL_lss rfl rfl rfl ?_
     refine WL_nil ?_
     refine WA_tk 6 (by kernel_rfl) rfl rfl (fl_move rfl) ?_
     refine WL_move rfl rfl ?_
     refine WL_nil ?_
     refine WA_fork (fun hc5 => ?_) (fun hc5 => ?_)
     ·replace hr8 := ite_t hr8 hc5
      refine WA_sk 7 (by kernel_rfl) rfl rfl rfl rfl (by simp) rfl rfl ?_
      refine WA_sk 8 (by kernel_rfl) rfl rfl rfl rfl (by simp) rfl rfl ?_
      refine WA_sk 9 (by kernel_rfl) rfl rfl rfl rfl (by simp) rfl rfl ?_
      refine WA_sk 10 (by kernel_rfl) rfl rfl rfl rfl (by simp [undef]) rfl rfl ?_
      refine WA_sk 11 (by kernel_rfl) rfl rfl rfl rfl (by simp [undef]) rfl rfl ?_
      refine WA_sk 12 (by kernel_rfl) rfl rfl rfl rfl (by simp [undef]) rfl rfl ?_
      refine WA_sk 13 (by kernel_rfl) rfl rfl rfl rfl (by simp [undef]) rfl rfl ?_
      refine WA_sk 14 (by kernel_rfl) rfl rfl rfl rfl (by simp [undef]) rfl rfl ?_
      refine WA_sk 15 (by kernel_rfl) rfl rfl rfl rfl (by simp [undef]) rfl rfl ?_
      refine WA_sk 16 (by kernel_rfl) rfl rfl rfl rfl (by simp [undef]) rfl rfl ?_
      refine WA_sk 17 (by kernel_rfl) rfl rfl rfl rfl (by simp [undef]) rfl rfl ?_
      refine WA_sk 18 (by kernel_rfl) rfl rfl rfl rfl (by simp [undef]) rfl rfl ?_
      refine WA_sk 19 (by kernel_rfl) rfl rfl rfl rfl (by simp [undef]) rfl rfl ?_
      refine WA_sk 20 (by kernel_rfl) rfl rfl rfl rfl (by simp) rfl rfl ?_
      refine WA_tk 21 (by kernel_rfl) rfl rfl (fl_pick_t rfl rfl) ?_
      refine WL_pick_t rfl rfl rfl ?_
      refine WL_nil ?_
      refine WA_done (by kernel_rfl) ?_
      have hq6 := Option.some.inj hr8
      subst hq6
      refine nrm_sub (l' := [(3, v1), (4, v2), (5, (.int .i64 x2.2.2.1)), (6, (.int .i64 x2.2.2.2)), (8, (.bool x3.2)), (9, v5), (11, (.int .i64 x7)), (77, (.bool true))]) ⟨rfl, rfl, rfl, rfl, rfl, rfl, rfl, rfl, trivial⟩ ?_
      exact ⟨true, rfl, rfl, (Keep.of hB8).below, hC17⟩
     replace hr8 := ite_f hr8 hc5
     refine WA_takeG 7 rfl (by kernel_rfl) (by kernel_rfl) (by kernel_rfl) rfl rfl rfl (fl_move rfl) ?_
     refine WL_guard rfl rfl ?_
     refine WL_move rfl rfl ?_
     refine WL_nil ?_
     refine WA_takeG 8 rfl (by kernel_rfl) (by kernel_rfl) (by kernel_rfl) rfl rfl rfl (fl_gtr rfl rfl) ?_
     refine WL_guard rfl rfl ?_
     refine WL_gtr rfl rfl rfl ?_
     refine WL_nil ?_
     refine WA_takeG 9 rfl (by kernel_rfl) (by kernel_rfl) (by kernel_rfl) rfl rfl rfl (fl_move rfl) ?_
     refine WL_guard rfl rfl ?_
     refine WL_move rfl rfl ?_
     refine WL_nil ?_
     refine WA_fork (fun hc6 => ?_) (fun hc6 => ?_)
     ·replace hr8 := ite_t hr8 hc6
      refine WA_takeG 10 rfl (by kernel_rfl) (by kernel_rfl) (by kernel_rfl) rfl rfl rfl (fl_move rfl) ?_
      refine WL_guard rfl rfl ?_
      refine WL_move rfl rfl ?_
      refine WL_nil ?_
      refine WA_takeG 11 rfl (by kernel_rfl) (by kernel_rfl) (by kernel_rfl) rfl rfl rfl (fl_move rfl) ?_
      refine WL_guard rfl rfl ?_
      refine WL_move rfl rfl ?_
      refine WL_nil ?_
      obtain ⟨x10, hx2, hr8⟩ := bind_some hr8
      refine WA_takeG 12 rfl (by kernel_rfl) (by kernel_rfl) (by kernel_rfl) rfl rfl rfl (fl_index Try.underlying26 ty3 (hC17.ro 0 rfl) hx2 rfl rfl) ?_
      refine WL_guard rfl rfl ?_
      refine WL_index Try.underlying26 ty3 (hC17.ro 0 rfl) hx2 rfl rfl rfl (fun b2 o2 h3 => ?_)
      refine WL_nil ?_
      refine WA_takeG 14 rfl (by kernel_rfl) (by kernel_rfl) (by kernel_rfl) rfl rfl rfl (fl_move rfl) ?_
      refine WL_guard rfl rfl ?_
      refine WL_move rfl rfl ?_
      refine WL_nil ?_
      refine WA_takeG 15 rfl (by kernel_rfl) (by kernel_rfl) (by kernel_rfl) rfl rfl rfl (fl_move rfl) ?_
      refine WL_guard rfl rfl ?_
      refine WL_move rfl rfl ?_
      refine WL_nil ?_
      refine WA_takeG 16 rfl (by kernel_rfl) (by kernel_rfl) (by kernel_rfl) rfl rfl rfl (fl_sub rfl rfl) ?_
      refine WL_guard rfl rfl ?_
      refine WL_sub rfl rfl rfl ?_
      refine WL_nil ?_
      obtain ⟨x11, hx3, hr8⟩ := bind_some hr8
      refine WA_takeG 17 rfl (by kernel_rfl) (by kernel_rfl) (by kernel_rfl) rfl rfl rfl (fl_index Try.underlying26 ty3 (hC17.ro 0 rfl) hx3 rfl rfl) ?_
      refine WL_guard rfl rfl ?_
      refine WL_index Try.underlying26 ty3 (hC17.ro 0 rfl) hx3 rfl rfl rfl (fun b3 o3 h4 => ?_)
      refine WL_nil ?_
      refine WA.sub (l' := [(3, v1), (4, v2), (5, (.int .i64 x2.2.2.1)), (6, (.int .i64 x2.2.2.2)), (8, (.bool x3.2)), (9, v5), (11, (.int .i64 x7)), (50, (.int .i64 x7)), (51, v5), (52, (.int .i64 (List.length x4.1 : Int))), (53, (.bool (decide (x7 < (List.length x4.1 : Int))))), (56, v5), (57, (.int .i64 x7)), (58, (ptr b1 o1)), (59, (.int .i64 x9)), (60, (.int .i64 x2.2.2.2)), (61, (.bool (decide (x9 < x2.2.2.2)))), (62, (.bool false)), (63, (.int .i64 x7)), (64, (.bool (decide (0 < x7)))), (65, (.bool true)), (66, v5), (67, (.int .i64 x7)), (68, (ptr b2 o2)), (70, v5), (71, (.int .i64 x7)), (72, (.int .i64 (w64 (x7 - 1)))), (73, (ptr b3 o3))]) ?_ ⟨rfl, rfl, rfl, rfl, rfl, rfl, rfl, rfl, rfl, rfl, rfl, rfl, rfl, rfl, rfl, rfl, rfl, rfl, rfl, rfl, rfl, rfl, rfl, rfl, rfl, rfl, rfl, rfl, trivial⟩
      refine WA_postsE [⟨13, [], fun vs => PW.val (.int .i64 x10), []⟩, ⟨18, [], fun vs => PW.val (.int .i64 x11), []⟩] [[], []] 3 rfl (by kernel_rfl) (by kernel_rfl) rfl ?_ ?_
      ·refine StepsE_cons rfl ?_ ?_
       ·intro w11 hB9
        refine DepsE_nil ?_
        refine ⟨_, rfl, ?_⟩
        refine WL_guard rfl rfl ?_
        refine WL_load ty3 h3 (Keep.of hB9) rfl rfl (fun v8 h5 => ?_)
        obtain rfl := ro_int h5
        refine WL_nil ?_
        exact FinE_val (Below.refl _ _) rfl rfl ⟨rfl, rfl⟩
       refine StepsE_cons rfl ?_ ?_
       ·intro w11 hB9
        refine DepsE_nil ?_
        refine ⟨_, rfl, ?_⟩
        refine WL_guard rfl rfl ?_
        refine WL_load ty3 h4 (Keep.of hB9) rfl rfl (fun v9 h6 => ?_)
        obtain rfl := ro_int h6
        refine WL_nil ?_
        exact FinE_val (Below.refl _ _) rfl rfl ⟨rfl, rfl⟩
       exact StepsE_nil
      intro w12 hB10
      refine AllE_cons rfl rfl rfl ?_
      rintro _ _ ⟨rfl, rfl⟩
      refine AllE_cons rfl rfl rfl ?_
      rintro _ _ ⟨rfl, rfl⟩
      refine AllE_nil ?_
      intro hn4 hb4
      have hC18 := hC17.grow hB10
      refine WA_takeG 19 rfl (by kernel_rfl) (by kernel_rfl) (by kernel_rfl) rfl rfl rfl (fl_lss rfl rfl) ?_
      refine WL_guard rfl rfl ?_
      refine WL_lss rfl rfl rfl ?_
      refine WL_nil ?_
      refine WA_takeG 20 rfl (by kernel_rfl) (by kernel_rfl) (by kernel_rfl) rfl rfl rfl (fl_pick_t rfl rfl) ?_
      refine WL_guard rfl rfl ?_
      refine WL_pick_t rfl rfl rfl ?_
      refine WL_nil ?_
      refine WA_tk 21 (by kernel_rfl) rfl rfl (fl_pick_f rfl rfl) ?_
      refine WL_pick_f rfl rfl rfl ?_
      refine WL_nil ?_
      refine WA_done (by kernel_rfl) ?_
      have hq7 := Option.some.inj hr8
      subst hq7
      refine nrm_sub (l' := [(3, v1), (4, v2), (5, (.int .i64 x2.2.2.1)), (6, (.int .i64 x2.2.2.2)), (8, (.bool x3.2)), (9, v5), (11, (.int .i64 x7)), (77, (.bool (decide (x10 < x11))))]) ⟨rfl, rfl, rfl, rfl, rfl, rfl, rfl, rfl, trivial⟩ ?_
      exact ⟨(decide (x10 < x11)), rfl, rfl, ((Keep.of hB8).then hB10).below, hC18⟩
     replace hr8 := ite_f hr8 hc6
     refine WA_sk 10 (by kernel_rfl) rfl rfl rfl rfl (by simp) rfl rfl ?_
     refine WA_sk 11 (by kernel_rfl) rfl rfl rfl rfl (by simp) rfl rfl ?_
     refine WA_sk 12 (by kernel_rfl) rfl rfl rfl rfl (by simp) rfl rfl ?_
     refine WA_sk 13 (by kernel_rfl) rfl rfl rfl rfl (by simp) rfl rfl ?_
     refine WA_sk 14 (by kernel_rfl) rfl rfl rfl rfl (by simp) rfl rfl ?_
     refine WA_sk 15 (by kernel_rfl) rfl rfl rfl rfl (by simp) rfl rfl ?_
     refine WA_sk 16 (by kernel_rfl) rfl rfl rfl rfl (by simp) rfl rfl ?_
     refine WA_sk 17 (by kernel_rfl) rfl rfl rfl rfl (by simp) rfl rfl ?_
     refine WA_sk 18 (by kernel_rfl) rfl rfl rfl rfl (by simp) rfl rfl ?_
     refine WA_sk 19 (by kernel_rfl) rfl rfl rfl rfl (by simp) rfl rfl ?_
     refine WA_takeG 20 rfl (by kernel_rfl) (by kernel_rfl) (by kernel_rfl) rfl rfl rfl (fl_pick_f rfl rfl) ?_
     refine WL_guard rfl rfl ?_
     refine WL_pick_f rfl rfl rfl ?_
     refine WL_nil ?_
     refine WA_tk 21 (by kernel_rfl) rfl rfl (fl_pick_f rfl rfl) ?_
     refine WL_pick_f rfl rfl rfl ?_
     refine WL_nil ?_
     refine WA_done (by kernel_rfl) ?_
     have hq8 := Option.some.inj hr8
     subst hq8
     refine nrm_sub (l' := [(3, v1), (4, v2), (5, (.int .i64 x2.2.2.1)), (6, (.int .i64 x2.2.2.2)), (8, (.bool x3.2)), (9, v5), (11, (.int .i64 x7)), (77, (.bool false))]) ⟨rfl, rfl, rfl, rfl, rfl, rfl, rfl, rfl, trivial⟩ ?_
     exact ⟨false, rfl, rfl, (Keep.of hB8).below, hC17⟩
    rintro _ w9 ⟨x8, rfl, rfl, hB7, hC16⟩
    try dsimp only at hL1
    refine W_cond rfl (fun hc7 => ?_) (fun hc7 => ?_)
    ·replace hL1 := ite_t hL1 hc7
     refine W_seq_reg ?_
     refine WL_assign rfl rfl ?_
     refine WL_nil ?_
     refine W_ret ?_
     refine blk_ret ?_
     refine nrm_ret ?_
     refine nrm_ret ?_
     refine blk_ret ?_
     refine nrm_ret ?_
     refine nrm_ret ?_
     have hq9 := Option.some.inj hL1
     subst hq9
     dsimp only at hF
     have hq10 := Option.some.inj hF
     subst hq10
     refine fn_ret1 rfl rfl ?_
     exact ⟨_, rfl, bool_res hC16 _⟩
    replace hL1 := ite_f hL1 hc7
    refine W_skip ?_
    refine blk_normal ?_
    refine nrm_normal ?_
    refine W_reg ?_
    refine WL_move rfl rfl ?_
    refine WL_add rfl rfl rfl ?_
    refine WL_assign rfl rfl ?_
    refine WL_nil ?_
    refine nrm_sub (l' := [(3, v1), (4, v2), (5, (.int .i64 x2.2.2.1)), (6, (.int .i64 x2.2.2.2)), (8, (.bool x3.2)), (9, v5), (11, (.int .i64 (w64 (x7 + 1))))]) ⟨rfl, rfl, rfl, rfl, rfl, rfl, rfl, trivial⟩ ?_
    exact ⟨k1, Nat.lt_succ_self _, w64 (x7 + 1), rfl, ((Keep.of hB6).then hB7).below, hC16, hL1⟩
   replace hL1 := ite_f hL1 hc4
   refine W_exit ?_
   refine nrm_exit ?_
   refine nrm_exit ?_
   refine blk_exit ?_
   have hq11 := Option.some.inj hL1
   subst hq11
   refine nrm_sub (l' := [(3, v1), (4, v2), (5, (.int .i64 x2.2.2.1)), (8, (.bool x3.2)), (9, v5)]) ⟨rfl, rfl, rfl, rfl, rfl, trivial⟩ ?_
   exact ⟨rfl, rfl, (Keep.of hB6).below, hC15⟩
 rintro l4 _ w13 hs4 ⟨rfl, rfl, hB11, hC19⟩
 try dsimp only at hF
 refine nrm_sub' hs4 ?_
 clear hs4
 refine W_seq ?_
 refine W_seq_reg ?_
 refine WL_assign rfl rfl ?_
 refine WL_nil ?_
 obtain ⟨r4, hr9, hF⟩ := bind_some hF
 refine W_norm (fun l w => .inl () = r4 ∧ l = [(4, v2), (8, (.bool x3.2)), (9, v5)] ∧ Ctx [] w0 w [Item.own v5 (x4.1 : (List Int)), Item.own v2 (x2.2.1 : (List (Int × (List Int))))]) ?_ ?_
 ·refine W_block ?_
  refine W.sub (l' := [(3, v1), (4, v2), (5, (.int .i64 x2.2.2.1)), (8, (.bool x3.2)), (9, v5), (12, (.int .i64 0))]) ?_ ⟨rfl, rfl, rfl, rfl, rfl, rfl, trivial⟩
  refine W_loop (fun k l w => ∃ x12 : Int, l = [(3, v1), (4, v2), (5, (.int .i64 x2.2.2.1)), (8, (.bool x3.2)), (9, v5), (12, (.int .i64 x12))] ∧ Ctx [] w0 w [Item.own v5 (x4.1 : (List Int)), Item.own v1 (x2.1 : (List (Int × (List Int) × Int × Int × Int))), Item.own v2 (x2.2.1 : (List (Int × (List Int))))] ∧ Q.FnSchedules_l2 x2 x3 x4 k x12 = some r4) FUEL ⟨0, rfl, hC19, hr9⟩ ?_
  clear hr9
  rintro k2 _ w14 ⟨x12, rfl, hC20, hL2⟩
  cases k2 with
  | zero => rw [Q.FnSchedules_l2] at hL2; cases hL2
  | succ k2 =>
   rw [Q.FnSchedules_l2] at hL2
   refine W_seq ?_
   obtain ⟨r5, hr10, hL2⟩ := bind_some hL2
   refine W_cut (fun l w => ∃ x13 : Bool, x13 = r5 ∧ l = [(3, v1), (4, v2), (5, (.int .i64 x2.2.2.1)), (8, (.bool x3.2)), (9, v5), (12, (.int .i64 x12)), (84, (.bool x13))] ∧ Below w14.heap.size w14 w ∧ Ctx [] w0 w [Item.own v5 (x4.1 : (List Int)), Item.own v1 (x2.1 : (List (Int × (List Int) × Int × Int × Int))), Item.own v2 (x2.2.1 : (List (Int × (List Int))))]) ?_ ?_
   ·refine W_reg ?_
    refine WL_move rfl rfl ?_
    refine WL_move rfl rfl ?_
    refine WL_len Try.underlying29 (hC20.ro 1 rfl) rfl rfl ?_
    refine WL_lss rfl rfl rfl ?_
    refine WL_move rfl rfl ?_
    refine WL_fork (fun hc8 => ?_) (fun hc8 => ?_)
    ·replace hr10 := ite_t hr10 hc8
     refine WL_guard rfl rfl ?_
     refine WL_move rfl rfl ?_
     refine WL_pick_t rfl rfl rfl ?_
     refine WL_nil ?_
     have hq12 := Option.some.inj hr10
     subst hq12
     refine nrm_sub (l' := [(3, v1), (4, v2), (5, (.int .i64 x2.2.2.1)), (8, (.bool x3.2)), (9, v5), (12, (.int .i64 x12)), (84, (.bool x3.2))]) ⟨rfl, rfl, rfl, rfl, rfl, rfl, rfl, trivial⟩ ?_
     exact ⟨x3.2, rfl, rfl, (Below.refl _ _), hC20⟩
    replace hr10 := ite_f hr10 hc8
    refine WL_guard_skip rfl rfl (by simp) rfl ?_
    refine WL_pick_f rfl rfl rfl ?_
    refine WL_nil ?_
    have hq13 := Option.some.inj hr10
    subst hq13
    refine nrm_sub (l' := [(3, v1), (4, v2), (5, (.int .i64 x2.2.2.1)), (8, (.bool x3.2)), (9, v5), (12, (.int .i64 x12)), (84, (.bool false))]) ⟨rfl, rfl, rfl, rfl, rfl, rfl, rfl, trivial⟩ ?_
    exact ⟨false, rfl, rfl, (Below.refl _ _), hC20⟩
   rintro _ w15 ⟨x13, rfl, rfl, hB13, hC21⟩
   try dsimp only at hL2
   refine W_cond rfl (fun hc9 => ?_) (fun hc9 => ?_)
   ·replace hL2 := ite_t hL2 hc9
    refine W_skip ?_
    refine nrm_normal ?_
    refine W_seq ?_
    refine W_block ?_
    refine W_seq_reg ?_
    refine WL_buildSlice (vs := []) hC21 Try.underlying26 ty3 rfl rfl rfl rfl (by simp) rfl rfl (fun b4 w16 hC22 hB14 => ?_)
    have hC23 := hC22.row0 (α := Int)
    have hC24 := hC23.front 1 rfl
    dsimp only [List.eraseIdx, List.cons_append, List.nil_append, List.append_nil] at hC24
    have hC25 : Ctx [] w0 w16 (Item.own (.slice (some ⟨b4, 0, none⟩) 0 0) (([] : List Int) : List Int) :: [Item.own v5 (x4.1 : (List Int)), Item.own v1 (x2.1 : (List (Int × (List Int) × Int × Int × Int))), Item.own v2 (x2.2.1 : (List (Int × (List Int))))]) := hC24.rowOwn (by simp [maxLen])
    refine WL_assign rfl rfl ?_
    refine WL_nil ?_
    refine W_seq ?_
    refine W_seq_reg ?_
    refine WL_assign rfl rfl ?_
    refine WL_nil ?_
    obtain ⟨r6, hr11, hL2⟩ := bind_some hL2
    refine W_norm (fun l w => ∃ v11 : Value, ∃ x16 : (List Int), x16 = r6 ∧ l = [(3, v1), (4, v2), (5, (.int .i64 x2.2.2.1)), (8, (.bool x3.2)), (9, v5), (12, (.int .i64 x12)), (13, v11)] ∧ Ctx [] w0 w [Item.own v11 (x16 : (List Int)), Item.own v5 (x4.1 : (List Int)), Item.own v1 (x2.1 : (List (Int × (List Int) × Int × Int × Int))), Item.own v2 (x2.2.1 : (List (Int × (List Int))))]) ?_ ?_
    ·refine W_block ?_
     refine W.sub (l' := [(3, v1), (4, v2), (5, (.int .i64 x2.2.2.1)), (8, (.bool x3.2)), (9, v5), (12, (.int .i64 x12)), (13, (.slice (some ⟨b4, 0, none⟩) 0 0)), (14, (.int .i64 0))]) ?_ ⟨rfl, rfl, rfl, rfl, rfl, rfl, rfl, rfl, trivial⟩
     refine W_loop (fun k l w => ∃ v10 : Value, ∃ x14 : (List Int), ∃ x15 : Int, l = [(3, v1), (4, v2), (5, (.int .i64 x2.2.2.1)), (8, (.bool x3.2)), (9, v5), (12, (.int .i64 x12)), (13, v10), (14, (.int .i64 x15))] ∧ Ctx [] w0 w [Item.own v10 (x14 : (List Int)), Item.own v5 (x4.1 : (List Int)), Item.own v1 (x2.1 : (List (Int × (List Int) × Int × Int × Int))), Item.own v2 (x2.2.1 : (List (Int × (List Int))))] ∧ Q.FnSchedules_l3 x2 x12 x4 k x14 x15 = some r6) FUEL ⟨(.slice (some ⟨b4, 0, none⟩) 0 0), ([] : List Int), 0, rfl, hC25, hr11⟩ ?_
     clear hr11
     rintro k3 _ w17 ⟨v10, x14, x15, rfl, hC26, hL3⟩
     cases k3 with
     | zero => rw [Q.FnSchedules_l3] at hL3; cases hL3
     | succ k3 =>
      rw [Q.FnSchedules_l3] at hL3
      refine W_seq ?_
      refine W_seq_reg ?_
      refine WL_move rfl rfl ?_
      refine WL_move rfl rfl ?_
      refine WL_len Try.underlying31 (hC26.ro 3 rfl) rfl rfl ?_
      refine WL_lss rfl rfl rfl ?_
      refine WL_nil ?_
      refine W_cond rfl (fun hc10 => ?_) (fun hc10 => ?_)
      ·replace hL3 := ite_t hL3 hc10
       refine W_skip ?_
       refine nrm_normal ?_
       refine W_seq ?_
       refine W_block ?_
       refine W_seq_reg ?_
       refine WL_move rfl rfl ?_
       refine WL_move rfl rfl ?_
       obtain ⟨x17, hx4, hL3⟩ := bind_some hL3
       refine WL_index Try.underlying31 ty45 (hC26.ro 3 rfl) hx4 rfl rfl rfl (fun b5 o4 h7 => ?_)
       refine WL_field Try.underlying45 rfl rfl (fun w => ⟨_, Try.sizeOf3 w⟩) rfl rfl ?_
       refine WL_load ty3 h7.fst (Keep.refl _ _) rfl rfl (fun v12 h8 => ?_)
       obtain rfl := ro_int h8
       refine WL_move rfl rfl ?_
       refine WL_eql rfl rfl rfl ?_
       refine WL_nil ?_
       obtain ⟨r7, hr12, hL3⟩ := bind_some hL3
       refine W_norm (fun l w => ∃ v13 : Value, ∃ x18 : (List Int), x18 = r7 ∧ l = [(3, v1), (4, v2), (5, (.int .i64 x2.2.2.1)), (8, (.bool x3.2)), (9, v5), (12, (.int .i64 x12)), (13, v13), (14, (.int .i64 x15))] ∧ Ctx [] w0 w [Item.own v13 (x18 : (List Int)), Item.own v5 (x4.1 : (List Int)), Item.own v1 (x2.1 : (List (Int × (List Int) × Int × Int × Int))), Item.own v2 (x2.2.1 : (List (Int × (List Int))))]) ?_ ?_
       ·refine W_cond rfl (fun hc11 => ?_) (fun hc11 => ?_)
        ·replace hr12 := ite_t hr12 hc11
         refine W_reg ?_
         refine WL_move rfl rfl ?_
         refine WL_move rfl rfl ?_
         refine WL_move rfl rfl ?_
         obtain ⟨x19, hx5, hr12⟩ := bind_some hr12
         refine WL_index Try.underlying26 ty3 (hC26.ro 1 rfl) hx5 rfl rfl rfl (fun b6 o5 h9 => ?_)
         refine WL_load ty3 h9 (Keep.refl _ _) rfl rfl (fun v14 h10 => ?_)
         obtain rfl := ro_int h10
         refine WL_buildSlice (vs := [(.int .i64 x19)]) hC26 Try.underlying26 ty3 rfl rfl rfl rfl (by intro v hv; simp only [List.mem_cons, List.not_mem_nil, or_false] at hv; rcases hv with rfl <;> rfl) rfl rfl (fun b7 w19 hC28 hB17 => ?_)
         have hC29 := hC28.row0 (α := Int)
         have hC30 := hC29.triv (int_val (x19))
         have hC31 := hC30.row1
         have hC32 := hC31.front 1 rfl
         dsimp only [List.eraseIdx, List.cons_append, List.nil_append, List.append_nil] at hC32
         have hC33 : Ctx [] w0 w19 (Item.own (.slice (some ⟨b7, 0, none⟩) 1 1) ([x19] : List Int) :: [Item.own v10 (x14 : (List Int)), Item.own v5 (x4.1 : (List Int)), Item.own v1 (x2.1 : (List (Int × (List Int) × Int × Int × Int))), Item.own v2 (x2.2.1 : (List (Int × (List Int))))]) := hC32.rowOwn (by simp [maxLen])
         obtain ⟨x20, hx6, hr12⟩ := bind_some hr12
         refine WL_append_flat (α := Int) hC33 1 rfl (hC33.ro 0 rfl) (Keep.refl _ _) Try.underlying26 ty3 rfl hx6 rfl rfl rfl (fun v15 w20 hC34 => ?_)
         try dsimp only [List.set] at hC34
         refine WL_assign rfl rfl ?_
         refine WL_nil ?_
         have hq14 := Option.some.inj hr12
         subst hq14
         have hC35 := hC34.f4
         have hC36 := hC35.f4
         have hC37 := hC36.f4
         have hC38 := hC37.f4
         have hC39 := hC38.h4
         refine nrm_sub (l' := [(3, v1), (4, v2), (5, (.int .i64 x2.2.2.1)), (8, (.bool x3.2)), (9, v5), (12, (.int .i64 x12)), (13, v15), (14, (.int .i64 x15))]) ⟨rfl, rfl, rfl, rfl, rfl, rfl, rfl, rfl, trivial⟩ ?_
         exact ⟨v15, x20, rfl, rfl, hC39⟩
        replace hr12 := ite_f hr12 hc11
        refine W_skip ?_
        have hq15 := Option.some.inj hr12
        subst hq15
        refine nrm_sub (l' := [(3, v1), (4, v2), (5, (.int .i64 x2.2.2.1)), (8, (.bool x3.2)), (9, v5), (12, (.int .i64 x12)), (13, v10), (14, (.int .i64 x15))]) ⟨rfl, rfl, rfl, rfl, rfl, rfl, rfl, rfl, trivial⟩ ?_
        exact ⟨v10, x14, rfl, rfl, hC26⟩
       rintro l8 _ w18 hs8 ⟨v13, x18, rfl, rfl, hC27⟩
       try dsimp only at hL3
       refine blk_normal ?_
       refine nrm_sub' hs8 ?_
       clear hs8
       refine W_reg ?_
       refine WL_move rfl rfl ?_
       refine WL_add rfl rfl rfl ?_
       refine WL_assign rfl rfl ?_
       refine WL_nil ?_
       refine nrm_sub (l' := [(3, v1), (4, v2), (5, (.int .i64 x2.2.2.1)), (8, (.bool x3.2)), (9, v5), (12, (.int .i64 x12)), (13, v13), (14, (.int .i64 (w64 (x15 + 1))))]) ⟨rfl, rfl, rfl, rfl, rfl, rfl, rfl, rfl, trivial⟩ ?_
       exact ⟨k3, Nat.lt_succ_self _, v13, x18, w64 (x15 + 1), rfl, hC27, hL3⟩
      replace hL3 := ite_f hL3 hc10
      refine W_exit ?_
      refine nrm_exit ?_
      refine nrm_exit ?_
      refine blk_exit ?_
      have hq16 := Option.some.inj hL3
      subst hq16
      refine nrm_sub (l' := [(3, v1), (4, v2), (5, (.int .i64 x2.2.2.1)), (8, (.bool x3.2)), (9, v5), (12, (.int .i64 x12)), (13, v10)]) ⟨rfl, rfl, rfl, rfl, rfl, rfl, rfl, trivial⟩ ?_
      exact ⟨v10, x14, rfl, rfl, hC26⟩
    rintro l9 _ w21 hs9 ⟨v11, x16, rfl, rfl, hC40⟩
    try dsimp only at hL2
    refine nrm_sub' hs9 ?_
    clear hs9
    refine W_seq_reg ?_
    refine WL_move rfl rfl ?_
    refine WL_move rfl rfl ?_
    refine WL_move rfl rfl ?_
    obtain ⟨x21, hx7, hL2⟩ := bind_some hL2
    refine WL_index Try.underlying29 ty47 (hC40.ro 2 rfl) hx7 rfl rfl rfl (fun b8 o6 h11 => ?_)
    refine WL_field Try.underlying47 rfl rfl (fun w => ⟨_, Try.sizeOf3 w⟩) rfl rfl ?_
    refine WL_load ty3 h11.snd.snd.snd.snd (Keep.refl _ _) rfl rfl (fun v16 h12 => ?_)
    obtain rfl := ro_int h12
    refine WL_build (vs := [(0, (.int .i64 x2.2.2.1)), (1, (.int .i64 x21.2.2.2.2))]) rfl rfl rfl (built49_0_1 rfl rfl) ?_
    refine WL_allocK hC40 zero49 rfl rfl (fun b9 w22 hC41 hB19 hN1 => ?_)
    refine WL_store_box_aggK (cs' := [(.int .i64 x2.2.2.1), (.int .i64 x21.2.2.2.2)]) (new := [(.int .i64 x2.2.2.1), (.int .i64 x21.2.2.2.2)]) hC41 0 rfl rfl (by intro v hv; simp only [List.mem_cons, List.not_mem_nil, or_false] at hv; rcases hv with rfl | rfl; exact rfl; exact rfl) rfl Try.sizeOf49 rfl rfl (fun w23 hC42 hKp1 => ?_)
    try dsimp only [List.set] at hC42
    have hk1 := Keep.over (Keep.of hB19) hN1 hKp1
    refine WL_nil ?_
    obtain ⟨r8, hr13, hL2⟩ := bind_some hL2
    refine W_cut (fun l w => ∃ x22 : Bool, x22 = r8 ∧ l = [(3, v1), (4, v2), (5, (.int .i64 x2.2.2.1)), (8, (.bool x3.2)), (9, v5), (12, (.int .i64 x12)), (123, (.bool x22))] ∧ Below w23.heap.size w23 w ∧ Ctx [] w0 w [Item.own v5 (x4.1 : (List Int)), Item.own v1 (x2.1 : (List (Int × (List Int) × Int × Int × Int))), Item.own v2 (x2.2.1 : (List (Int × (List Int))))]) ?_ ?_
    ·refine W_reg ?_
     refine WL_move rfl rfl ?_
     refine WL_len Try.underlying26 (hC42.ro 1 rfl) rfl rfl ?_
     refine WL_gtr rfl rfl rfl ?_
     refine WL_move rfl rfl ?_
     refine WL_fork (fun hc12 => ?_) (fun hc12 => ?_)
     ·replace hr13 := ite_t hr13 hc12
      refine WL_guard rfl rfl ?_
      refine WL_move rfl rfl ?_
      refine WL_guard rfl rfl ?_
      refine WL_load_box_agg [(.int .i64 x2.2.2.1), (.int .i64 x21.2.2.2.2)] hC42 0 rfl rfl rfl Try.isAgg49 Try.sizeOf49 rfl rfl ?_
      obtain ⟨x23, hr14, hr13⟩ := bind_some hr13
      refine WL_guard rfl rfl ?_
      refine WL_call Try.call21 rfl rfl (c_M_IsKept x16 v11 ((hC42.ro 1 rfl).now (Keep.refl _ _)) (x2.2.2.1, x21.2.2.2.2) x23 hr14) ?_
      intro _ w25 hv7
      obtain ⟨rfl, hB21⟩ := res_bool hv7
      have hC44 := hC42.grow hB21
      refine WL_guard rfl rfl ?_
      refine WL_not rfl rfl ?_
      refine WL_pick_t rfl rfl rfl ?_
      refine WL_nil ?_
      have hq17 := Option.some.inj hr13
      subst hq17
      have hC45 := hC44.f4
      have hC46 := hC45.f4
      have hC47 := hC46.f4
      have hC48 := hC47.h3
      refine nrm_sub (l' := [(3, v1), (4, v2), (5, (.int .i64 x2.2.2.1)), (8, (.bool x3.2)), (9, v5), (12, (.int .i64 x12)), (123, (.bool (!x23)))]) ⟨rfl, rfl, rfl, rfl, rfl, rfl, rfl, trivial⟩ ?_
      exact ⟨(!x23), rfl, rfl, (Keep.of hB21).below, hC48⟩
     replace hr13 := ite_f hr13 hc12
     refine WL_guard_skip rfl rfl (by simp) rfl ?_
     refine WL_guard_skip rfl rfl (by simp) rfl ?_
     refine WL_guard_skip rfl rfl (by simp) rfl ?_
     refine WL_guard_skip rfl rfl (by simp) rfl ?_
     refine WL_pick_f rfl rfl rfl ?_
     refine WL_nil ?_
     have hq18 := Option.some.inj hr13
     subst hq18
     have hC49 := hC42.f4
     have hC50 := hC49.f4
     have hC51 := hC50.f4
     have hC52 := hC51.h3
     refine nrm_sub (l' := [(3, v1), (4, v2), (5, (.int .i64 x2.2.2.1)), (8, (.bool x3.2)), (9, v5), (12, (.int .i64 x12)), (123, (.bool false))]) ⟨rfl, rfl, rfl, rfl, rfl, rfl, rfl, trivial⟩ ?_
     exact ⟨false, rfl, rfl, (Below.refl _ _), hC52⟩
    rintro _ w24 ⟨x22, rfl, rfl, hB20, hC43⟩
    try dsimp only at hL2
    refine W_cond rfl (fun hc13 => ?_) (fun hc13 => ?_)
    ·replace hL2 := ite_t hL2 hc13
     refine W_seq_reg ?_
     refine WL_assign rfl rfl ?_
     refine WL_nil ?_
     refine W_ret ?_
     refine blk_ret ?_
     refine nrm_ret ?_
     refine nrm_ret ?_
     refine blk_ret ?_
     refine nrm_ret ?_
     refine nrm_ret ?_
     have hq19 := Option.some.inj hL2
     subst hq19
     dsimp only at hF
     have hq20 := Option.some.inj hF
     subst hq20
     refine fn_ret1 rfl rfl ?_
     exact ⟨_, rfl, bool_res hC43 _⟩
    replace hL2 := ite_f hL2 hc13
    refine W_skip ?_
    refine blk_normal ?_
    refine nrm_normal ?_
    refine W_reg ?_
    refine WL_move rfl rfl ?_
    refine WL_add rfl rfl rfl ?_
    refine WL_assign rfl rfl ?_
    refine WL_nil ?_
    refine nrm_sub (l' := [(3, v1), (4, v2), (5, (.int .i64 x2.2.2.1)), (8, (.bool x3.2)), (9, v5), (12, (.int .i64 (w64 (x12 + 1))))]) ⟨rfl, rfl, rfl, rfl, rfl, rfl, trivial⟩ ?_
    exact ⟨k2, Nat.lt_succ_self _, w64 (x12 + 1), rfl, hC43, hL2⟩
   replace hL2 := ite_f hL2 hc9
   refine W_exit ?_
   refine nrm_exit ?_
   refine nrm_exit ?_
   refine blk_exit ?_
   have hq21 := Option.some.inj hL2
   subst hq21
   have hC53 := hC21.f2
   have hC54 := hC53.f1
   have hC55 := hC54.h2
   refine nrm_sub (l' := [(4, v2), (8, (.bool x3.2)), (9, v5)]) ⟨rfl, rfl, rfl, trivial⟩ ?_
   exact ⟨rfl, rfl, hC55⟩
 rintro l11 _ w26 hs11 ⟨rfl, rfl, hC56⟩
 try dsimp only at hF
 refine nrm_sub' hs11 ?_
 clear hs11
 obtain ⟨r9, hr15, hF⟩ := bind_some hF
 refine W_cut (fun l w => ∃ x24 : Bool, x24 = r9 ∧ l = [(2, (.bool x24))] ∧ Below w26.heap.size w26 w ∧ Ctx [] w0 w []) ?_ ?_
 ·refine W_reg ?_
  refine WL_move rfl rfl ?_
  refine WL_not rfl rfl ?_
  refine WL_move rfl rfl ?_
  refine WL_fork (fun hc14 => ?_) (fun hc14 => ?_)
  ·replace hr15 := ite_t hr15 hc14
   refine WL_guard_skip rfl rfl (by simp) rfl ?_
   refine WL_guard_skip rfl rfl (by simp) rfl ?_
   refine WL_guard_skip rfl rfl (by simp) rfl ?_
   refine WL_guard_skip rfl rfl (by simp) rfl ?_
   refine WL_guard_skip rfl rfl (by simp) rfl ?_
   refine WL_pick_t rfl rfl rfl ?_
   refine WL_assign rfl rfl ?_
   refine WL_nil ?_
   have hq22 := Option.some.inj hr15
   subst hq22
   have hC58 := hC56.h0
   refine nrm_sub (l' := [(2, (.bool true))]) ⟨rfl, trivial⟩ ?_
   exact ⟨true, rfl, rfl, (Below.refl _ _), hC58⟩
  replace hr15 := ite_f hr15 hc14
  refine WL_guard rfl rfl ?_
  refine WL_move rfl rfl ?_
  refine WL_guard rfl rfl ?_
  refine WL_len Try.underlying26 (hC56.ro 0 rfl) rfl rfl ?_
  refine WL_guard rfl rfl ?_
  refine WL_move rfl rfl ?_
  refine WL_guard rfl rfl ?_
  refine WL_len Try.underlying31 (hC56.ro 1 rfl) rfl rfl ?_
  refine WL_guard rfl rfl ?_
  refine WL_eql rfl rfl rfl ?_
  refine WL_pick_f rfl rfl rfl ?_
  refine WL_assign rfl rfl ?_
  refine WL_nil ?_
  have hq23 := Option.some.inj hr15
  subst hq23
  have hC59 := hC56.h0
  refine nrm_sub (l' := [(2, (.bool (decide ((List.length x4.1 : Int) = (List.length x2.2.1 : Int)))))]) ⟨rfl, trivial⟩ ?_
  exact ⟨(decide ((List.length x4.1 : Int) = (List.length x2.2.1 : Int))), rfl, rfl, (Below.refl _ _), hC59⟩
 rintro _ w27 ⟨x24, rfl, rfl, hB23, hC57⟩
 try dsimp only at hF
 refine W_ret ?_
 have hq24 := Option.some.inj hF
 subst hq24
 refine fn_ret1 rfl rfl ?_
 exact ⟨_, rfl, bool_res hC57 _⟩

end Go.Gx.Px
