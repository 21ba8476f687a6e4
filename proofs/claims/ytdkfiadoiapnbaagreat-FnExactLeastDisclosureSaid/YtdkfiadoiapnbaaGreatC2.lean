/- The contracts of the Go functions against the pure functions, printed by program. Conditions: each says them. -/
import Derived.Test.YtdkfiadoiapnbaaGreatC1
set_option linter.unusedVariables false
set_option linter.unusedSimpArgs false
set_option maxRecDepth 100000
set_option maxHeartbeats 4000000
namespace Go.Gx.Px
open Go.Proofs Go.RowKit

theorem c_S_CanCall {w0 : World} (a1 : (Int × (List Int) × Int × Int × Int)) (u1 : Value) (g1 : RO [] w0 u1 a1.2.1) (a2 : (Int × (List Int))) (u2 : Value) (g2 : RO [] w0 u2 a2.2) (a3 : (List Int)) (u3 : Value) (g3 : RO [] w0 u3 a3) (rr : Bool) (hF : S.CanCall a1 a2 a3 = some rr) :
 Calls Tryz.prog 55 [(.agg #[(.int .i64 a1.1), u1, (.int .i64 a1.2.2.1), (.int .i64 a1.2.2.2.1), (.int .i64 a1.2.2.2.2)]), (.agg #[(.int .i64 a2.1), u2]), u3].toArray w0 fun e w' => ∃ v, e = .returned v ∧ Res w0 rr v w' := by
 refine calls_of_W Tryz.func55 rfl rfl ?_
 have hC0 := Ctx.start w0
 unfold S.CanCall at hF
 refine W_seq_reg ?_
 refine WL_boxK (cs := [(.int .i64 a1.1), u1, (.int .i64 a1.2.2.1), (.int .i64 a1.2.2.2.1), (.int .i64 a1.2.2.2.2)]) hC0 rfl rfl rfl (fun b1 w1 hC1 hB1 hN1 => ?_)
 refine WL_boxK (cs := [(.int .i64 a2.1), u2]) hC1 rfl rfl rfl (fun b2 w2 hC2 hB2 hN2 => ?_)
 refine WL_assign rfl rfl ?_
 refine WL_nil (W_seq (W_seq_reg ?_))
 refine WL_field Tryz.underlying71 rfl rfl (fun w => ⟨_, Tryz.sizeOf3 w⟩) rfl rfl ?_
 refine WL_load_box hC2 1 rfl rfl Tryz.isAgg3 rfl rfl ?_
 refine WL_field Tryz.underlying84 rfl rfl (fun w => ⟨_, Tryz.sizeOf3 w⟩) rfl rfl ?_
 refine WL_load_box hC2 0 rfl rfl Tryz.isAgg3 rfl rfl ?_
 refine WL_neq rfl rfl rfl ?_
 refine WL_nil ?_
 refine W_cond rfl (fun hc1 => ?_) (fun hc1 => ?_)
 ·replace hF := ite_t hF hc1
  refine W_seq_reg ?_
  refine WL_assign rfl rfl ?_
  refine WL_nil (W_ret (nrm_ret ?_))
  have hq1 := Option.some.inj hF
  subst hq1
  refine fn_ret1 rfl rfl ?_
  exact ⟨_, rfl, bool_res hC2 _⟩
 replace hF := ite_f hF hc1
 refine W_skip (nrm_normal (W_seq (W_seq_reg ?_)))
 refine WL_assign rfl rfl ?_
 refine WL_nil ?_
 obtain ⟨r1, hr1, hF⟩ := bind_some hF
 refine W_norm (fun l w => .inl () = r1 ∧ l = [] ∧ Below w2.heap.size w2 w ∧ Ctx [] w0 w []) ?_ ?_
 ·refine W_block ?_
  refine W.sub (l' := [(2, u3), (3, (ptr b1 0)), (4, (ptr b2 0)), (7, (.int .i64 0))]) ?_ ⟨rfl, rfl, rfl, rfl, trivial⟩
  refine W_loop (fun k l w => ∃ x1 : Int, l = [(2, u3), (3, (ptr b1 0)), (4, (ptr b2 0)), (7, (.int .i64 x1))] ∧ Below w2.heap.size w2 w ∧ Ctx [] w0 w [Item.box b2 [(.int .i64 a2.1), u2], Item.box b1 [(.int .i64 a1.1), u1, (.int .i64 a1.2.2.1), (.int .i64 a1.2.2.2.1), (.int .i64 a1.2.2.2.2)]] ∧ S.CanCall_l1 a1 a2 a3 k x1 = some r1) FUEL ⟨0, rfl, (Below.refl _ _), hC2, hr1⟩ ?_
  clear hr1
  rintro k1 _ w3 ⟨x1, rfl, hB3, hC3, hL1⟩
  cases k1 with
  | zero => rw [S.CanCall_l1] at hL1; cases hL1
  | succ k1 =>
   rw [S.CanCall_l1] at hL1
   refine W_seq (W_seq_reg ?_)
   refine WL_move rfl rfl ?_
   refine WL_field Tryz.underlying71 rfl rfl (fun w => ⟨_, Tryz.sizeOf22 w⟩) rfl rfl ?_
   refine WL_load_box hC3 1 rfl rfl Tryz.isAgg22 rfl rfl ?_
   refine WL_len Tryz.underlying22 g1 rfl rfl ?_
   refine WL_lss rfl rfl rfl ?_
   refine WL_nil ?_
   refine W_cond rfl (fun hc2 => ?_) (fun hc2 => ?_)
   ·replace hL1 := ite_t hL1 hc2
    refine W_skip (nrm_normal (W_seq (W_block (W_seq (W_seq ?_)))))
    refine W_drawn 11 rfl hmix (fun w4 hB4 => ?_)
    have hC4 := hC3.grow hB4
    refine WA_tk 0 (by kernel_rfl) rfl rfl (fl_field Tryz.underlying71 rfl rfl (fun w => ⟨_, Tryz.sizeOf22 w⟩) rfl) ?_
    refine WL_field Tryz.underlying71 rfl rfl (fun w => ⟨_, Tryz.sizeOf22 w⟩) rfl rfl ?_
    refine WL_nil ?_
    refine WA_tk 2 (by kernel_rfl) rfl rfl (fl_move rfl) ?_
    refine WL_move rfl rfl ?_
    refine WL_nil ?_
    refine WA_tk 5 (by kernel_rfl) rfl rfl (fl_field Tryz.underlying84 rfl rfl (fun w => ⟨_, Tryz.sizeOf22 w⟩) rfl) ?_
    refine WL_field Tryz.underlying84 rfl rfl (fun w => ⟨_, Tryz.sizeOf22 w⟩) rfl rfl ?_
    refine WL_nil ?_
    obtain ⟨x2, hx1, hL1⟩ := bind_some hL1
    refine WA.sub (l' := [(2, u3), (3, (ptr b1 0)), (4, (ptr b2 0)), (7, (.int .i64 x1)), (14, (.int .i64 x1)), (15, (ptr b1 1)), (16, u1), (17, (.int .i64 (List.length a1.2.1 : Int))), (18, (.bool (decide (x1 < (List.length a1.2.1 : Int))))), (21, (ptr b1 1)), (23, (.int .i64 x1)), (26, (ptr b2 1))]) ?_ ⟨rfl, rfl, rfl, rfl, rfl, rfl, rfl, rfl, rfl, rfl, rfl, rfl, trivial⟩
    refine WA_postsE [⟨1, [], fun vs => PW.val u1, []⟩, ⟨3, [], fun vs => PW.at [] w0 x2, []⟩, ⟨4, [], fun vs => PW.val (.int .i64 x2), []⟩, ⟨6, [], fun vs => PW.val u2, []⟩, ⟨7, [], fun vs => PW.val (.int .i64 (List.length a2.2 : Int)), []⟩, ⟨8, [], fun vs => PW.val (.int .i64 (w64 ((List.length a2.2 : Int) - 1))), []⟩] [[], [1], [3], [], [6], [7]] 2 rfl (by kernel_rfl) (by kernel_rfl) rfl ?_ ?_
    ·refine StepsE_cons rfl ?_ ?_
     ·intro w5 hB5
      refine DepsE_nil ?_
      refine ⟨_, rfl, ?_⟩
      refine WL_load_box (hC4.grow hB5) 1 rfl rfl Tryz.isAgg22 rfl rfl ?_
      refine WL_nil ?_
      exact FinE_val (Below.refl _ _) rfl rfl ⟨rfl, rfl⟩
     refine StepsE_cons rfl ?_ ?_
     ·intro w5 hB5
      refine DepsE_cons rfl rfl rfl ?_
      rintro _ _ ⟨rfl, rfl⟩ _
      refine DepsE_nil ?_
      refine ⟨_, rfl, ?_⟩
      refine WL_index Tryz.underlying22 ty3 g1 hx1 rfl rfl rfl (fun b3 o1 h1 => ?_)
      refine WL_nil ?_
      exact FinE_val (Below.refl _ _) rfl rfl ⟨rfl, _, _, rfl, h1⟩
     refine StepsE_cons rfl ?_ ?_
     ·intro w5 hB5
      refine DepsE_cons rfl rfl rfl ?_
      rintro _ _ ⟨rfl, b3, o1, rfl, h1⟩ _
      refine DepsE_nil ?_
      refine ⟨_, rfl, ?_⟩
      refine WL_load ty3 h1 (hC4.keep.then hB5) rfl rfl (fun v1 h2 => ?_)
      obtain rfl := ro_int h2
      refine WL_nil ?_
      exact FinE_val (Below.refl _ _) rfl rfl ⟨rfl, rfl⟩
     refine StepsE_cons rfl ?_ ?_
     ·intro w5 hB5
      refine DepsE_nil ?_
      refine ⟨_, rfl, ?_⟩
      refine WL_load_box (hC4.grow hB5) 0 rfl rfl Tryz.isAgg22 rfl rfl ?_
      refine WL_nil ?_
      exact FinE_val (Below.refl _ _) rfl rfl ⟨rfl, rfl⟩
     refine StepsE_cons rfl ?_ ?_
     ·intro w5 hB5
      refine DepsE_cons rfl rfl rfl ?_
      rintro _ _ ⟨rfl, rfl⟩ _
      refine DepsE_nil ?_
      refine ⟨_, rfl, ?_⟩
      refine WL_len Tryz.underlying22 g2 rfl rfl ?_
      refine WL_nil ?_
      exact FinE_val (Below.refl _ _) rfl rfl ⟨rfl, rfl⟩
     refine StepsE_cons rfl ?_ ?_
     ·intro w5 hB5
      refine DepsE_cons rfl rfl rfl ?_
      rintro _ _ ⟨rfl, rfl⟩ _
      refine DepsE_nil ?_
      refine ⟨_, rfl, ?_⟩
      refine WL_sub rfl rfl rfl ?_
      refine WL_nil ?_
      exact FinE_val (Below.refl _ _) rfl rfl ⟨rfl, rfl⟩
     exact StepsE_nil
    intro w6 hB6
    refine AllE_cons rfl rfl rfl ?_
    rintro _ _ ⟨rfl, rfl⟩
    refine AllE_cons rfl rfl rfl ?_
    rintro _ _ ⟨rfl, b3, o1, rfl, h1⟩
    refine AllE_cons rfl rfl rfl ?_
    rintro _ _ ⟨rfl, rfl⟩
    refine AllE_cons rfl rfl rfl ?_
    rintro _ _ ⟨rfl, rfl⟩
    refine AllE_cons rfl rfl rfl ?_
    rintro _ _ ⟨rfl, rfl⟩
    refine AllE_cons rfl rfl rfl ?_
    rintro _ _ ⟨rfl, rfl⟩
    refine AllE_nil ?_
    intro hn1 hb1
    have hC5 := hC4.grow hB6
    obtain ⟨x3, hr2, hL1⟩ := bind_some hL1
    refine WA_one 9 (by kernel_rfl) rfl ?_
    refine WL_call Tryz.call82 rfl rfl (c_S_l1In x2 0 (w64 ((List.length a2.2 : Int) - 1)) x3 hr2) ?_
    intro _ w7 hv1
    obtain ⟨rfl, hB7⟩ := res_bool hv1
    have hC6 := hC5.grow hB7
    refine WL_nil ?_
    refine WA_tk 10 (by kernel_rfl) rfl rfl (fl_not rfl) ?_
    refine WL_not rfl rfl ?_
    refine WL_nil ?_
    refine WA_done (by kernel_rfl) ?_
    refine nrm_normal ?_
    refine W_cond rfl (fun hc3 => ?_) (fun hc3 => ?_)
    ·replace hL1 := ite_t hL1 hc3
     refine W_seq_reg ?_
     refine WL_assign rfl rfl ?_
     refine WL_nil (W_ret (nrm_ret (blk_ret (nrm_ret (nrm_ret (blk_ret (nrm_ret (nrm_ret ?_))))))))
     have hq2 := Option.some.inj hL1
     subst hq2
     dsimp only at hF
     have hq3 := Option.some.inj hF
     subst hq3
     refine fn_ret1 rfl rfl ?_
     exact ⟨_, rfl, bool_res hC6 _⟩
    replace hL1 := ite_f hL1 hc3
    refine W_skip (nrm_normal (W_seq ?_))
    refine W_drawn 10 rfl hmix (fun w9 hB8 => ?_)
    have hC7 := hC6.grow hB8
    refine WA_tk 0 (by kernel_rfl) rfl rfl (fl_field Tryz.underlying84 rfl rfl (fun w => ⟨_, Tryz.sizeOf22 w⟩) rfl) ?_
    refine WL_field Tryz.underlying84 rfl rfl (fun w => ⟨_, Tryz.sizeOf22 w⟩) rfl rfl ?_
    refine WL_nil ?_
    refine WA_tk 2 (by kernel_rfl) rfl rfl (fl_field Tryz.underlying71 rfl rfl (fun w => ⟨_, Tryz.sizeOf22 w⟩) rfl) ?_
    refine WL_field Tryz.underlying71 rfl rfl (fun w => ⟨_, Tryz.sizeOf22 w⟩) rfl rfl ?_
    refine WL_nil ?_
    refine WA_tk 4 (by kernel_rfl) rfl rfl (fl_move rfl) ?_
    refine WL_move rfl rfl ?_
    refine WL_nil ?_
    obtain ⟨x4, hx2, hL1⟩ := bind_some hL1
    refine WA.sub (l' := [(2, u3), (3, (ptr b1 0)), (4, (ptr b2 0)), (7, (.int .i64 x1)), (14, (.int .i64 x1)), (15, (ptr b1 1)), (16, u1), (17, (.int .i64 (List.length a1.2.1 : Int))), (18, (.bool (decide (x1 < (List.length a1.2.1 : Int))))), (21, (ptr b1 1)), (22, u1), (23, (.int .i64 x1)), (24, (ptr b3 o1)), (25, (.int .i64 x2)), (26, (ptr b2 1)), (27, u2), (28, (.int .i64 (List.length a2.2 : Int))), (29, (.int .i64 (w64 ((List.length a2.2 : Int) - 1)))), (30, (.bool x3)), (31, (.bool (!x3))), (32, (ptr b2 1)), (34, (ptr b1 1)), (36, (.int .i64 x1))]) ?_ ⟨rfl, rfl, rfl, rfl, rfl, rfl, rfl, rfl, rfl, rfl, rfl, rfl, rfl, rfl, rfl, rfl, rfl, rfl, rfl, rfl, rfl, rfl, rfl, trivial⟩
    refine WA_postsE [⟨1, [], fun vs => PW.val u2, []⟩, ⟨3, [], fun vs => PW.val u1, []⟩, ⟨5, [], fun vs => PW.at [] w0 x4, []⟩, ⟨6, [], fun vs => PW.val (.int .i64 x4), []⟩] [[], [], [3], [5]] 3 rfl (by kernel_rfl) (by kernel_rfl) rfl ?_ ?_
    ·refine StepsE_cons rfl ?_ ?_
     ·intro w10 hB9
      refine DepsE_nil ?_
      refine ⟨_, rfl, ?_⟩
      refine WL_load_box (hC7.grow hB9) 0 rfl rfl Tryz.isAgg22 rfl rfl ?_
      refine WL_nil ?_
      exact FinE_val (Below.refl _ _) rfl rfl ⟨rfl, rfl⟩
     refine StepsE_cons rfl ?_ ?_
     ·intro w10 hB9
      refine DepsE_nil ?_
      refine ⟨_, rfl, ?_⟩
      refine WL_load_box (hC7.grow hB9) 1 rfl rfl Tryz.isAgg22 rfl rfl ?_
      refine WL_nil ?_
      exact FinE_val (Below.refl _ _) rfl rfl ⟨rfl, rfl⟩
     refine StepsE_cons rfl ?_ ?_
     ·intro w10 hB9
      refine DepsE_cons rfl rfl rfl ?_
      rintro _ _ ⟨rfl, rfl⟩ _
      refine DepsE_nil ?_
      refine ⟨_, rfl, ?_⟩
      refine WL_index Tryz.underlying22 ty3 g1 hx2 rfl rfl rfl (fun b4 o2 h3 => ?_)
      refine WL_nil ?_
      exact FinE_val (Below.refl _ _) rfl rfl ⟨rfl, _, _, rfl, h3⟩
     refine StepsE_cons rfl ?_ ?_
     ·intro w10 hB9
      refine DepsE_cons rfl rfl rfl ?_
      rintro _ _ ⟨rfl, b4, o2, rfl, h3⟩ _
      refine DepsE_nil ?_
      refine ⟨_, rfl, ?_⟩
      refine WL_load ty3 h3 (hC7.keep.then hB9) rfl rfl (fun v2 h4 => ?_)
      obtain rfl := ro_int h4
      refine WL_nil ?_
      exact FinE_val (Below.refl _ _) rfl rfl ⟨rfl, rfl⟩
     exact StepsE_nil
    intro w11 hB10
    refine AllE_cons rfl rfl rfl ?_
    rintro _ _ ⟨rfl, rfl⟩
    refine AllE_cons rfl rfl rfl ?_
    rintro _ _ ⟨rfl, rfl⟩
    refine AllE_cons rfl rfl rfl ?_
    rintro _ _ ⟨rfl, b4, o2, rfl, h3⟩
    refine AllE_cons rfl rfl rfl ?_
    rintro _ _ ⟨rfl, rfl⟩
    refine AllE_nil ?_
    intro hn2 hb2
    have hC8 := hC7.grow hB10
    obtain ⟨x5, hx3, hL1⟩ := bind_some hL1
    refine WA_tk 7 (by kernel_rfl) rfl rfl (fl_index Tryz.underlying22 ty3 g2 hx3 rfl rfl) ?_
    refine WL_index Tryz.underlying22 ty3 g2 hx3 rfl rfl rfl (fun b5 o3 h5 => ?_)
    refine WL_nil ?_
    refine WA_one 8 (by kernel_rfl) rfl ?_
    refine WL_load ty3 h5 hC8.keep rfl rfl (fun v3 h6 => ?_)
    obtain rfl := ro_int h6
    refine WL_nil ?_
    refine WA_tk 9 (by kernel_rfl) rfl rfl (fl_assign rfl) ?_
    refine WL_assign rfl rfl ?_
    refine WL_nil ?_
    refine WA_done (by kernel_rfl) ?_
    refine nrm_normal ?_
    obtain ⟨r2, hr3, hL1⟩ := bind_some hL1
    refine W_cut (fun l w => ∃ x6 : Bool, x6 = r2 ∧ l = [(2, u3), (3, (ptr b1 0)), (4, (ptr b2 0)), (7, (.int .i64 x1)), (48, (.bool x6))] ∧ Below w11.heap.size w11 w ∧ Ctx [] w0 w [Item.box b2 [(.int .i64 a2.1), u2], Item.box b1 [(.int .i64 a1.1), u1, (.int .i64 a1.2.2.1), (.int .i64 a1.2.2.2.1), (.int .i64 a1.2.2.2.2)]]) ?_ ?_
    ·refine W_reg ?_
     refine WL_move rfl rfl ?_
     obtain ⟨x7, hr4, hr3⟩ := bind_some hr3
     refine WL_call Tryz.call91 rfl rfl (c_S_IsVar x5 x7 hr4) ?_
     intro _ w13 hv2
     obtain ⟨rfl, hB12⟩ := res_bool hv2
     have hC10 := hC8.grow hB12
     refine WL_move rfl rfl ?_
     refine WL_fork (fun hc4 => ?_) (fun hc4 => ?_)
     ·replace hr3 := ite_t hr3 hc4
      refine WL_guard rfl rfl ?_
      refine WL_move rfl rfl ?_
      refine WL_guard rfl rfl ?_
      refine WL_move rfl rfl ?_
      obtain ⟨x8, hr5, hr3⟩ := bind_some hr3
      refine WL_guard rfl rfl ?_
      refine WL_call Tryz.call54 rfl rfl (c_S_l2Has a3 u3 (g3.now hC10.keep) x5 x8 hr5) ?_
      intro _ w14 hv3
      obtain ⟨rfl, hB13⟩ := res_bool hv3
      have hC11 := hC10.grow hB13
      refine WL_guard rfl rfl ?_
      refine WL_not rfl rfl ?_
      refine WL_pick_t rfl rfl rfl ?_
      refine WL_nil ?_
      have hq4 := Option.some.inj hr3
      subst hq4
      refine nrm_sub (l' := [(2, u3), (3, (ptr b1 0)), (4, (ptr b2 0)), (7, (.int .i64 x1)), (48, (.bool (!x8)))]) ⟨rfl, rfl, rfl, rfl, rfl, trivial⟩ ?_
      exact ⟨(!x8), rfl, rfl, ((Keep.of hB12).then hB13).below, hC11⟩
     replace hr3 := ite_f hr3 hc4
     refine WL_guard_skip rfl rfl (by simp) rfl ?_
     refine WL_guard_skip rfl rfl (by simp) rfl ?_
     refine WL_guard_skip rfl rfl (by simp) rfl ?_
     refine WL_guard_skip rfl rfl (by simp) rfl ?_
     refine WL_pick_f rfl rfl rfl ?_
     refine WL_nil ?_
     have hq5 := Option.some.inj hr3
     subst hq5
     refine nrm_sub (l' := [(2, u3), (3, (ptr b1 0)), (4, (ptr b2 0)), (7, (.int .i64 x1)), (48, (.bool false))]) ⟨rfl, rfl, rfl, rfl, rfl, trivial⟩ ?_
     exact ⟨false, rfl, rfl, (Keep.of hB12).below, hC10⟩
    rintro _ w12 ⟨x6, rfl, rfl, hB11, hC9⟩
    try dsimp only at hL1
    refine W_cond rfl (fun hc5 => ?_) (fun hc5 => ?_)
    ·replace hL1 := ite_t hL1 hc5
     refine W_seq_reg ?_
     refine WL_assign rfl rfl ?_
     refine WL_nil (W_ret (blk_ret (nrm_ret (nrm_ret (blk_ret (nrm_ret (nrm_ret ?_)))))))
     have hq6 := Option.some.inj hL1
     subst hq6
     dsimp only at hF
     have hq7 := Option.some.inj hF
     subst hq7
     refine fn_ret1 rfl rfl ?_
     exact ⟨_, rfl, bool_res hC9 _⟩
    replace hL1 := ite_f hL1 hc5
    refine W_skip (blk_normal (nrm_normal (W_reg ?_)))
    refine WL_move rfl rfl ?_
    refine WL_add rfl rfl rfl ?_
    refine WL_assign rfl rfl ?_
    refine WL_nil ?_
    refine nrm_sub (l' := [(2, u3), (3, (ptr b1 0)), (4, (ptr b2 0)), (7, (.int .i64 (w64 (x1 + 1))))]) ⟨rfl, rfl, rfl, rfl, trivial⟩ ?_
    exact ⟨k1, Nat.lt_succ_self _, w64 (x1 + 1), rfl, (((((((Keep.of hB3).then hB4).then hB6).then hB7).then hB8).then hB10).then hB11).below, hC9, hL1⟩
   replace hL1 := ite_f hL1 hc2
   refine W_exit (nrm_exit (nrm_exit (blk_exit ?_)))
   have hq8 := Option.some.inj hL1
   subst hq8
   have hC12 := hC3.h0
   refine nrm_sub (l' := []) trivial ?_
   exact ⟨rfl, rfl, (Keep.of hB3).below, hC12⟩
 rintro l3 _ w15 hs3 ⟨rfl, rfl, hB14, hC13⟩
 try dsimp only at hF
 refine nrm_sub' hs3 ?_
 clear hs3
 refine W_seq_reg ?_
 refine WL_assign rfl rfl ?_
 refine WL_nil (W_ret ?_)
 have hq9 := Option.some.inj hF
 subst hq9
 refine fn_ret1 rfl rfl ?_
 exact ⟨_, rfl, bool_res hC13 _⟩

theorem c_S_l30Passed {w0 : World} (a1 : (Int × (List Int) × Int × Int × Int)) (u1 : Value) (g1 : RO [] w0 u1 a1.2.1) (a2 : (Int × (List Int))) (u2 : Value) (g2 : RO [] w0 u2 a2.2) (rr : (List Int)) (hF : S.l30Passed a1 a2 = some rr) :
 Calls Tryz.prog 56 [(.agg #[(.int .i64 a1.1), u1, (.int .i64 a1.2.2.1), (.int .i64 a1.2.2.2.1), (.int .i64 a1.2.2.2.2)]), (.agg #[(.int .i64 a2.1), u2])].toArray w0 fun e w' => ∃ v, e = .returned v ∧ Res w0 rr v w' := by
 refine calls_of_W Tryz.func56 rfl rfl ?_
 have hC0 := Ctx.start w0
 unfold S.l30Passed at hF
 refine W_seq_reg ?_
 refine WL_boxK (cs := [(.int .i64 a1.1), u1, (.int .i64 a1.2.2.1), (.int .i64 a1.2.2.2.1), (.int .i64 a1.2.2.2.2)]) hC0 rfl rfl rfl (fun b1 w1 hC1 hB1 hN1 => ?_)
 refine WL_boxK (cs := [(.int .i64 a2.1), u2]) hC1 rfl rfl rfl (fun b2 w2 hC2 hB2 hN2 => ?_)
 refine WL_assign rfl rfl ?_
 refine WL_nil (W_seq_reg ?_)
 refine WL_buildSlice (vs := []) hC2 Tryz.underlying22 ty3 rfl rfl rfl rfl (by simp) rfl rfl (fun b3 w3 hC3 hB3 => ?_)
 have hC4 := hC3.row0 (α := Int)
 have hC5 := hC4.front 1 rfl
 dsimp only [List.eraseIdx, List.cons_append, List.nil_append, List.append_nil] at hC5
 have hC6 : Ctx [] w0 w3 (Item.own (.slice (some ⟨b3, 0, none⟩) 0 0) (([] : List Int) : List Int) :: [Item.box b2 [(.int .i64 a2.1), u2], Item.box b1 [(.int .i64 a1.1), u1, (.int .i64 a1.2.2.1), (.int .i64 a1.2.2.2.1), (.int .i64 a1.2.2.2.2)]]) := hC5.rowOwn (by simp [maxLen])
 refine WL_assign rfl rfl ?_
 refine WL_nil (W_seq (W_seq_reg ?_))
 refine WL_assign rfl rfl ?_
 refine WL_nil ?_
 obtain ⟨r1, hr1, hF⟩ := bind_some hF
 refine W_norm (fun l w => ∃ v2 : Value, ∃ x3 : (List Int), x3 = r1 ∧ l = [(5, v2)] ∧ Ctx [] w0 w [Item.own v2 (x3 : (List Int))]) ?_ ?_
 ·refine W_block ?_
  refine W.sub (l' := [(2, (ptr b1 0)), (3, (ptr b2 0)), (5, (.slice (some ⟨b3, 0, none⟩) 0 0)), (6, (.int .i64 0))]) ?_ ⟨rfl, rfl, rfl, rfl, trivial⟩
  refine W_loop (fun k l w => ∃ v1 : Value, ∃ x1 : (List Int), ∃ x2 : Int, l = [(2, (ptr b1 0)), (3, (ptr b2 0)), (5, v1), (6, (.int .i64 x2))] ∧ Ctx [] w0 w [Item.own v1 (x1 : (List Int)), Item.box b2 [(.int .i64 a2.1), u2], Item.box b1 [(.int .i64 a1.1), u1, (.int .i64 a1.2.2.1), (.int .i64 a1.2.2.2.1), (.int .i64 a1.2.2.2.2)]] ∧ S.l30Passed_l1 a1 a2 k x1 x2 = some r1) FUEL ⟨(.slice (some ⟨b3, 0, none⟩) 0 0), ([] : List Int), 0, rfl, hC6, hr1⟩ ?_
  clear hr1
  rintro k1 _ w4 ⟨v1, x1, x2, rfl, hC7, hL1⟩
  cases k1 with
  | zero => rw [S.l30Passed_l1] at hL1; cases hL1
  | succ k1 =>
   rw [S.l30Passed_l1] at hL1
   refine W_seq (W_seq_reg ?_)
   refine WL_move rfl rfl ?_
   refine WL_field Tryz.underlying71 rfl rfl (fun w => ⟨_, Tryz.sizeOf22 w⟩) rfl rfl ?_
   refine WL_load_box hC7 2 rfl rfl Tryz.isAgg22 rfl rfl ?_
   refine WL_len Tryz.underlying22 g1 rfl rfl ?_
   refine WL_lss rfl rfl rfl ?_
   refine WL_nil ?_
   refine W_cond rfl (fun hc1 => ?_) (fun hc1 => ?_)
   ·replace hL1 := ite_t hL1 hc1
    refine W_skip (nrm_normal (W_seq (W_block ?_)))
    obtain ⟨r2, hr2, hL1⟩ := bind_some hL1
    refine W_cut (fun l w => ∃ x4 : Bool, x4 = r2 ∧ l = [(2, (ptr b1 0)), (3, (ptr b2 0)), (5, v1), (6, (.int .i64 x2)), (36, (.bool x4))] ∧ Below w4.heap.size w4 w ∧ Ctx [] w0 w [Item.own v1 (x1 : (List Int)), Item.box b2 [(.int .i64 a2.1), u2], Item.box b1 [(.int .i64 a1.1), u1, (.int .i64 a1.2.2.1), (.int .i64 a1.2.2.2.1), (.int .i64 a1.2.2.2.2)]]) ?_ ?_
    ·refine W_drawn 22 rfl hmix (fun w6 hB6 => ?_)
     have hC9 := hC7.grow hB6
     refine WA_tk 0 (by kernel_rfl) rfl rfl (fl_field Tryz.underlying71 rfl rfl (fun w => ⟨_, Tryz.sizeOf22 w⟩) rfl) ?_
     refine WL_field Tryz.underlying71 rfl rfl (fun w => ⟨_, Tryz.sizeOf22 w⟩) rfl rfl ?_
     refine WL_nil ?_
     refine WA_tk 2 (by kernel_rfl) rfl rfl (fl_move rfl) ?_
     refine WL_move rfl rfl ?_
     refine WL_nil ?_
     refine WA_tk 5 (by kernel_rfl) rfl rfl (fl_field Tryz.underlying84 rfl rfl (fun w => ⟨_, Tryz.sizeOf22 w⟩) rfl) ?_
     refine WL_field Tryz.underlying84 rfl rfl (fun w => ⟨_, Tryz.sizeOf22 w⟩) rfl rfl ?_
     refine WL_nil ?_
     obtain ⟨x5, hx1, hr2⟩ := bind_some hr2
     refine WA.sub (l' := [(2, (ptr b1 0)), (3, (ptr b2 0)), (5, v1), (6, (.int .i64 x2)), (8, (.int .i64 x2)), (9, (ptr b1 1)), (10, u1), (11, (.int .i64 (List.length a1.2.1 : Int))), (12, (.bool (decide (x2 < (List.length a1.2.1 : Int))))), (15, (ptr b1 1)), (17, (.int .i64 x2)), (20, (ptr b2 1))]) ?_ ⟨rfl, rfl, rfl, rfl, rfl, rfl, rfl, rfl, rfl, rfl, rfl, rfl, trivial⟩
     refine WA_postsE [⟨1, [], fun vs => PW.val u1, []⟩, ⟨3, [], fun vs => PW.at [] w0 x5, []⟩, ⟨4, [], fun vs => PW.val (.int .i64 x5), []⟩, ⟨6, [], fun vs => PW.val u2, []⟩, ⟨7, [], fun vs => PW.val (.int .i64 (List.length a2.2 : Int)), []⟩, ⟨8, [], fun vs => PW.val (.int .i64 (w64 ((List.length a2.2 : Int) - 1))), []⟩] [[], [1], [3], [], [6], [7]] 13 rfl (by kernel_rfl) (by kernel_rfl) rfl ?_ ?_
     ·refine StepsE_cons rfl ?_ ?_
      ·intro w7 hB7
       refine DepsE_nil ?_
       refine ⟨_, rfl, ?_⟩
       refine WL_load_box (hC9.grow hB7) 2 rfl rfl Tryz.isAgg22 rfl rfl ?_
       refine WL_nil ?_
       exact FinE_val (Below.refl _ _) rfl rfl ⟨rfl, rfl⟩
      refine StepsE_cons rfl ?_ ?_
      ·intro w7 hB7
       refine DepsE_cons rfl rfl rfl ?_
       rintro _ _ ⟨rfl, rfl⟩ _
       refine DepsE_nil ?_
       refine ⟨_, rfl, ?_⟩
       refine WL_index Tryz.underlying22 ty3 g1 hx1 rfl rfl rfl (fun b4 o1 h1 => ?_)
       refine WL_nil ?_
       exact FinE_val (Below.refl _ _) rfl rfl ⟨rfl, _, _, rfl, h1⟩
      refine StepsE_cons rfl ?_ ?_
      ·intro w7 hB7
       refine DepsE_cons rfl rfl rfl ?_
       rintro _ _ ⟨rfl, b4, o1, rfl, h1⟩ _
       refine DepsE_nil ?_
       refine ⟨_, rfl, ?_⟩
       refine WL_load ty3 h1 (hC9.keep.then hB7) rfl rfl (fun v3 h2 => ?_)
       obtain rfl := ro_int h2
       refine WL_nil ?_
       exact FinE_val (Below.refl _ _) rfl rfl ⟨rfl, rfl⟩
      refine StepsE_cons rfl ?_ ?_
      ·intro w7 hB7
       refine DepsE_nil ?_
       refine ⟨_, rfl, ?_⟩
       refine WL_load_box (hC9.grow hB7) 1 rfl rfl Tryz.isAgg22 rfl rfl ?_
       refine WL_nil ?_
       exact FinE_val (Below.refl _ _) rfl rfl ⟨rfl, rfl⟩
      refine StepsE_cons rfl ?_ ?_
      ·intro w7 hB7
       refine DepsE_cons rfl rfl rfl ?_
       rintro _ _ ⟨rfl, rfl⟩ _
       refine DepsE_nil ?_
       refine ⟨_, rfl, ?_⟩
       refine WL_len Tryz.underlying22 g2 rfl rfl ?_
       refine WL_nil ?_
       exact FinE_val (Below.refl _ _) rfl rfl ⟨rfl, rfl⟩
      refine StepsE_cons rfl ?_ ?_
      ·intro w7 hB7
       refine DepsE_cons rfl rfl rfl ?_
       rintro _ _ ⟨rfl, rfl⟩ _
       refine DepsE_nil ?_
       refine ⟨_, rfl, ?_⟩
       refine WL_sub rfl rfl rfl ?_
       refine WL_nil ?_
       exact FinE_val (Below.refl _ _) rfl rfl ⟨rfl, rfl⟩
      exact StepsE_nil
     intro w9 hB8
     refine AllE_cons rfl rfl rfl ?_
     rintro _ _ ⟨rfl, rfl⟩
     refine AllE_cons rfl rfl rfl ?_
     rintro _ _ ⟨rfl, b4, o1, rfl, h1⟩
     refine AllE_cons rfl rfl rfl ?_
     rintro _ _ ⟨rfl, rfl⟩
     refine AllE_cons rfl rfl rfl ?_
     rintro _ _ ⟨rfl, rfl⟩
     refine AllE_cons rfl rfl rfl ?_
     rintro _ _ ⟨rfl, rfl⟩
     refine AllE_cons rfl rfl rfl ?_
     rintro _ _ ⟨rfl, rfl⟩
     refine AllE_nil ?_
     intro hn1 hb1
     have hC10 := hC9.grow hB8
     obtain ⟨x6, hr3, hr2⟩ := bind_some hr2
     refine WA_one 9 (by kernel_rfl) rfl ?_
     refine WL_call Tryz.call82 rfl rfl (c_S_l1In x5 0 (w64 ((List.length a2.2 : Int) - 1)) x6 hr3) ?_
     intro _ w10 hv1
     obtain ⟨rfl, hB9⟩ := res_bool hv1
     have hC11 := hC10.grow hB9
     refine WL_nil ?_
     refine WA_tk 10 (by kernel_rfl) rfl rfl (fl_move rfl) ?_
     refine WL_move rfl rfl ?_
     refine WL_nil ?_
     refine WA_fork (fun hc2 => ?_) (fun hc2 => ?_)
     ·replace hr2 := ite_t hr2 hc2
      refine WA_takeG 11 rfl (by kernel_rfl) (by kernel_rfl) (by kernel_rfl) rfl rfl rfl (fl_field Tryz.underlying84 rfl rfl (fun w => ⟨_, Tryz.sizeOf22 w⟩) rfl) ?_
      refine WL_guard rfl rfl ?_
      refine WL_field Tryz.underlying84 rfl rfl (fun w => ⟨_, Tryz.sizeOf22 w⟩) rfl rfl ?_
      refine WL_nil ?_
      refine WA_takeG 13 rfl (by kernel_rfl) (by kernel_rfl) (by kernel_rfl) rfl rfl rfl (fl_field Tryz.underlying71 rfl rfl (fun w => ⟨_, Tryz.sizeOf22 w⟩) rfl) ?_
      refine WL_guard rfl rfl ?_
      refine WL_field Tryz.underlying71 rfl rfl (fun w => ⟨_, Tryz.sizeOf22 w⟩) rfl rfl ?_
      refine WL_nil ?_
      refine WA_takeG 15 rfl (by kernel_rfl) (by kernel_rfl) (by kernel_rfl) rfl rfl rfl (fl_move rfl) ?_
      refine WL_guard rfl rfl ?_
      refine WL_move rfl rfl ?_
      refine WL_nil ?_
      obtain ⟨x7, hx2, hr2⟩ := bind_some hr2
      refine WA.sub (l' := [(2, (ptr b1 0)), (3, (ptr b2 0)), (5, v1), (6, (.int .i64 x2)), (8, (.int .i64 x2)), (9, (ptr b1 1)), (10, u1), (11, (.int .i64 (List.length a1.2.1 : Int))), (12, (.bool (decide (x2 < (List.length a1.2.1 : Int))))), (15, (ptr b1 1)), (16, u1), (17, (.int .i64 x2)), (18, (ptr b4 o1)), (19, (.int .i64 x5)), (20, (ptr b2 1)), (21, u2), (22, (.int .i64 (List.length a2.2 : Int))), (23, (.int .i64 (w64 ((List.length a2.2 : Int) - 1)))), (24, (.bool x6)), (25, (.bool true)), (26, (ptr b2 1)), (28, (ptr b1 1)), (30, (.int .i64 x2))]) ?_ ⟨rfl, rfl, rfl, rfl, rfl, rfl, rfl, rfl, rfl, rfl, rfl, rfl, rfl, rfl, rfl, rfl, rfl, rfl, rfl, rfl, rfl, rfl, rfl, trivial⟩
      refine WA_postsE [⟨12, [], fun vs => PW.val u2, []⟩, ⟨14, [], fun vs => PW.val u1, []⟩, ⟨16, [], fun vs => PW.at [] w0 x7, []⟩, ⟨17, [], fun vs => PW.val (.int .i64 x7), []⟩] [[], [], [14], [16]] 4 rfl (by kernel_rfl) (by kernel_rfl) rfl ?_ ?_
      ·refine StepsE_cons rfl ?_ ?_
       ·intro w11 hB10
        refine DepsE_nil ?_
        refine ⟨_, rfl, ?_⟩
        refine WL_guard rfl rfl ?_
        refine WL_load_box (hC11.grow hB10) 1 rfl rfl Tryz.isAgg22 rfl rfl ?_
        refine WL_nil ?_
        exact FinE_val (Below.refl _ _) rfl rfl ⟨rfl, rfl⟩
       refine StepsE_cons rfl ?_ ?_
       ·intro w11 hB10
        refine DepsE_nil ?_
        refine ⟨_, rfl, ?_⟩
        refine WL_guard rfl rfl ?_
        refine WL_load_box (hC11.grow hB10) 2 rfl rfl Tryz.isAgg22 rfl rfl ?_
        refine WL_nil ?_
        exact FinE_val (Below.refl _ _) rfl rfl ⟨rfl, rfl⟩
       refine StepsE_cons rfl ?_ ?_
       ·intro w11 hB10
        refine DepsE_cons rfl rfl rfl ?_
        rintro _ _ ⟨rfl, rfl⟩ _
        refine DepsE_nil ?_
        refine ⟨_, rfl, ?_⟩
        refine WL_guard rfl rfl ?_
        refine WL_index Tryz.underlying22 ty3 g1 hx2 rfl rfl rfl (fun b5 o2 h3 => ?_)
        refine WL_nil ?_
        exact FinE_val (Below.refl _ _) rfl rfl ⟨rfl, _, _, rfl, h3⟩
       refine StepsE_cons rfl ?_ ?_
       ·intro w11 hB10
        refine DepsE_cons rfl rfl rfl ?_
        rintro _ _ ⟨rfl, b5, o2, rfl, h3⟩ _
        refine DepsE_nil ?_
        refine ⟨_, rfl, ?_⟩
        refine WL_guard rfl rfl ?_
        refine WL_load ty3 h3 (hC11.keep.then hB10) rfl rfl (fun v4 h4 => ?_)
        obtain rfl := ro_int h4
        refine WL_nil ?_
        exact FinE_val (Below.refl _ _) rfl rfl ⟨rfl, rfl⟩
       exact StepsE_nil
      intro w12 hB11
      refine AllE_cons rfl rfl rfl ?_
      rintro _ _ ⟨rfl, rfl⟩
      refine AllE_cons rfl rfl rfl ?_
      rintro _ _ ⟨rfl, rfl⟩
      refine AllE_cons rfl rfl rfl ?_
      rintro _ _ ⟨rfl, b5, o2, rfl, h3⟩
      refine AllE_cons rfl rfl rfl ?_
      rintro _ _ ⟨rfl, rfl⟩
      refine AllE_nil ?_
      intro hn2 hb2
      have hC12 := hC11.grow hB11
      obtain ⟨x8, hx3, hr2⟩ := bind_some hr2
      refine WA_takeG 18 rfl (by kernel_rfl) (by kernel_rfl) (by kernel_rfl) rfl rfl rfl (fl_index Tryz.underlying22 ty3 g2 hx3 rfl rfl) ?_
      refine WL_guard rfl rfl ?_
      refine WL_index Tryz.underlying22 ty3 g2 hx3 rfl rfl rfl (fun b6 o3 h5 => ?_)
      refine WL_nil ?_
      refine WA_one 19 (by kernel_rfl) rfl ?_
      refine WL_guard rfl rfl ?_
      refine WL_load ty3 h5 hC12.keep rfl rfl (fun v5 h6 => ?_)
      obtain rfl := ro_int h6
      refine WL_nil ?_
      obtain ⟨x9, hr4, hr2⟩ := bind_some hr2
      refine WA_one 20 (by kernel_rfl) rfl ?_
      refine WL_guard rfl rfl ?_
      refine WL_call Tryz.call82 rfl rfl (c_S_l1In x8 0 9 x9 hr4) ?_
      intro _ w13 hv2
      obtain ⟨rfl, hB12⟩ := res_bool hv2
      have hC13 := hC12.grow hB12
      refine WL_nil ?_
      refine WA_tk 21 (by kernel_rfl) rfl rfl (fl_pick_t rfl rfl) ?_
      refine WL_pick_t rfl rfl rfl ?_
      refine WL_nil ?_
      refine WA_done (by kernel_rfl) ?_
      have hq1 := Option.some.inj hr2
      subst hq1
      refine nrm_sub (l' := [(2, (ptr b1 0)), (3, (ptr b2 0)), (5, v1), (6, (.int .i64 x2)), (36, (.bool x9))]) ⟨rfl, rfl, rfl, rfl, rfl, trivial⟩ ?_
      exact ⟨x9, rfl, rfl, (((((Keep.of hB6).then hB8).then hB9).then hB11).then hB12).below, hC13⟩
     replace hr2 := ite_f hr2 hc2
     refine WA_sk 11 (by kernel_rfl) rfl rfl rfl rfl (by simp) rfl rfl ?_
     refine WA_sk 12 (by kernel_rfl) rfl rfl rfl rfl (by simp) rfl rfl ?_
     refine WA_sk 13 (by kernel_rfl) rfl rfl rfl rfl (by simp) rfl rfl ?_
     refine WA_sk 14 (by kernel_rfl) rfl rfl rfl rfl (by simp) rfl rfl ?_
     refine WA_sk 15 (by kernel_rfl) rfl rfl rfl rfl (by simp) rfl rfl ?_
     refine WA_sk 16 (by kernel_rfl) rfl rfl rfl rfl (by simp) rfl rfl ?_
     refine WA_sk 17 (by kernel_rfl) rfl rfl rfl rfl (by simp) rfl rfl ?_
     refine WA_sk 18 (by kernel_rfl) rfl rfl rfl rfl (by simp) rfl rfl ?_
     refine WA_sk 19 (by kernel_rfl) rfl rfl rfl rfl (by simp) rfl rfl ?_
     refine WA_sk 20 (by kernel_rfl) rfl rfl rfl rfl (by simp) rfl rfl ?_
     refine WA_tk 21 (by kernel_rfl) rfl rfl (fl_pick_f rfl rfl) ?_
     refine WL_pick_f rfl rfl rfl ?_
     refine WL_nil ?_
     refine WA_done (by kernel_rfl) ?_
     have hq2 := Option.some.inj hr2
     subst hq2
     refine nrm_sub (l' := [(2, (ptr b1 0)), (3, (ptr b2 0)), (5, v1), (6, (.int .i64 x2)), (36, (.bool false))]) ⟨rfl, rfl, rfl, rfl, rfl, trivial⟩ ?_
     exact ⟨false, rfl, rfl, (((Keep.of hB6).then hB8).then hB9).below, hC11⟩
    rintro _ w5 ⟨x4, rfl, rfl, hB5, hC8⟩
    try dsimp only at hL1
    obtain ⟨r3, hr5, hL1⟩ := bind_some hL1
    refine W_norm (fun l w => ∃ v6 : Value, ∃ x10 : (List Int), x10 = r3 ∧ l = [(2, (ptr b1 0)), (3, (ptr b2 0)), (5, v6), (6, (.int .i64 x2))] ∧ Ctx [] w0 w [Item.own v6 (x10 : (List Int)), Item.box b2 [(.int .i64 a2.1), u2], Item.box b1 [(.int .i64 a1.1), u1, (.int .i64 a1.2.2.1), (.int .i64 a1.2.2.2.1), (.int .i64 a1.2.2.2.2)]]) ?_ ?_
    ·refine W_cond rfl (fun hc3 => ?_) (fun hc3 => ?_)
     ·replace hr5 := ite_t hr5 hc3
      refine W_drawn 12 rfl hmix (fun w15 hB14 => ?_)
      have hC15 := hC8.grow hB14
      refine WA_tk 0 (by kernel_rfl) rfl rfl (fl_move rfl) ?_
      refine WL_move rfl rfl ?_
      refine WL_nil ?_
      refine WA_tk 1 (by kernel_rfl) rfl rfl (fl_field Tryz.underlying84 rfl rfl (fun w => ⟨_, Tryz.sizeOf22 w⟩) rfl) ?_
      refine WL_field Tryz.underlying84 rfl rfl (fun w => ⟨_, Tryz.sizeOf22 w⟩) rfl rfl ?_
      refine WL_nil ?_
      refine WA_tk 3 (by kernel_rfl) rfl rfl (fl_field Tryz.underlying71 rfl rfl (fun w => ⟨_, Tryz.sizeOf22 w⟩) rfl) ?_
      refine WL_field Tryz.underlying71 rfl rfl (fun w => ⟨_, Tryz.sizeOf22 w⟩) rfl rfl ?_
      refine WL_nil ?_
      refine WA_tk 5 (by kernel_rfl) rfl rfl (fl_move rfl) ?_
      refine WL_move rfl rfl ?_
      refine WL_nil ?_
      obtain ⟨x11, hx4, hr5⟩ := bind_some hr5
      refine WA.sub (l' := [(2, (ptr b1 0)), (3, (ptr b2 0)), (5, v1), (6, (.int .i64 x2)), (36, (.bool x4)), (37, v1), (38, (ptr b2 1)), (40, (ptr b1 1)), (42, (.int .i64 x2))]) ?_ ⟨rfl, rfl, rfl, rfl, rfl, rfl, rfl, rfl, rfl, trivial⟩
      refine WA_postsE [⟨2, [], fun vs => PW.val u2, []⟩, ⟨4, [], fun vs => PW.val u1, []⟩, ⟨6, [], fun vs => PW.at [] w0 x11, []⟩, ⟨7, [], fun vs => PW.val (.int .i64 x11), []⟩] [[], [], [4], [6]] 4 rfl (by kernel_rfl) (by kernel_rfl) rfl ?_ ?_
      ·refine StepsE_cons rfl ?_ ?_
       ·intro w16 hB15
        refine DepsE_nil ?_
        refine ⟨_, rfl, ?_⟩
        refine WL_load_box (hC15.grow hB15) 1 rfl rfl Tryz.isAgg22 rfl rfl ?_
        refine WL_nil ?_
        exact FinE_val (Below.refl _ _) rfl rfl ⟨rfl, rfl⟩
       refine StepsE_cons rfl ?_ ?_
       ·intro w16 hB15
        refine DepsE_nil ?_
        refine ⟨_, rfl, ?_⟩
        refine WL_load_box (hC15.grow hB15) 2 rfl rfl Tryz.isAgg22 rfl rfl ?_
        refine WL_nil ?_
        exact FinE_val (Below.refl _ _) rfl rfl ⟨rfl, rfl⟩
       refine StepsE_cons rfl ?_ ?_
       ·intro w16 hB15
        refine DepsE_cons rfl rfl rfl ?_
        rintro _ _ ⟨rfl, rfl⟩ _
        refine DepsE_nil ?_
        refine ⟨_, rfl, ?_⟩
        refine WL_index Tryz.underlying22 ty3 g1 hx4 rfl rfl rfl (fun b7 o4 h7 => ?_)
        refine WL_nil ?_
        exact FinE_val (Below.refl _ _) rfl rfl ⟨rfl, _, _, rfl, h7⟩
       refine StepsE_cons rfl ?_ ?_
       ·intro w16 hB15
        refine DepsE_cons rfl rfl rfl ?_
        rintro _ _ ⟨rfl, b7, o4, rfl, h7⟩ _
        refine DepsE_nil ?_
        refine ⟨_, rfl, ?_⟩
        refine WL_load ty3 h7 (hC15.keep.then hB15) rfl rfl (fun v7 h8 => ?_)
        obtain rfl := ro_int h8
        refine WL_nil ?_
        exact FinE_val (Below.refl _ _) rfl rfl ⟨rfl, rfl⟩
       exact StepsE_nil
      intro w17 hB16
      refine AllE_cons rfl rfl rfl ?_
      rintro _ _ ⟨rfl, rfl⟩
      refine AllE_cons rfl rfl rfl ?_
      rintro _ _ ⟨rfl, rfl⟩
      refine AllE_cons rfl rfl rfl ?_
      rintro _ _ ⟨rfl, b7, o4, rfl, h7⟩
      refine AllE_cons rfl rfl rfl ?_
      rintro _ _ ⟨rfl, rfl⟩
      refine AllE_nil ?_
      intro hn3 hb3
      have hC16 := hC15.grow hB16
      obtain ⟨x12, hx5, hr5⟩ := bind_some hr5
      refine WA_tk 8 (by kernel_rfl) rfl rfl (fl_index Tryz.underlying22 ty3 g2 hx5 rfl rfl) ?_
      refine WL_index Tryz.underlying22 ty3 g2 hx5 rfl rfl rfl (fun b8 o5 h9 => ?_)
      refine WL_nil ?_
      refine WA_one 9 (by kernel_rfl) rfl ?_
      refine WL_load ty3 h9 hC16.keep rfl rfl (fun v8 h10 => ?_)
      obtain rfl := ro_int h10
      refine WL_nil ?_
      obtain ⟨x13, hr6, hr5⟩ := bind_some hr5
      refine WA_one 10 (by kernel_rfl) rfl ?_
      obtain ⟨Fs1, hH1, hn4, hF1, hO1, hb4⟩ := Ctx.lend2 (As := [Item.box b2 [(.int .i64 a2.1), u2], Item.box b1 [(.int .i64 a1.1), u1, (.int .i64 a1.2.2.1), (.int .i64 a1.2.2.2.1), (.int .i64 a1.2.2.2.2)]]) [Item.own v1 (x1 : (List Int))] hC16
      refine WL_call Tryz.call83 rfl rfl (c_S_l3Put_own x1 v1 x12 hH1 hn4 x13 hr6) ?_
      rintro v9 w18 ⟨_, rfl, hq3⟩
      have hC18 : Ctx [] w0 w18 [Item.own v9 (x13 : (List Int)), Item.box b2 [(.int .i64 a2.1), u2], Item.box b1 [(.int .i64 a1.1), u1, (.int .i64 a1.2.2.1), (.int .i64 a1.2.2.2.1), (.int .i64 a1.2.2.2.2)]] := hb4 _ _ hq3
      refine WL_nil ?_
      refine WA_tk 11 (by kernel_rfl) rfl rfl (fl_assign rfl) ?_
      refine WL_assign rfl rfl ?_
      refine WL_nil ?_
      refine WA_done (by kernel_rfl) ?_
      have hq4 := Option.some.inj hr5
      subst hq4
      refine nrm_sub (l' := [(2, (ptr b1 0)), (3, (ptr b2 0)), (5, v9), (6, (.int .i64 x2))]) ⟨rfl, rfl, rfl, rfl, trivial⟩ ?_
      exact ⟨v9, x13, rfl, rfl, hC18⟩
     replace hr5 := ite_f hr5 hc3
     refine W_skip ?_
     have hq5 := Option.some.inj hr5
     subst hq5
     refine nrm_sub (l' := [(2, (ptr b1 0)), (3, (ptr b2 0)), (5, v1), (6, (.int .i64 x2))]) ⟨rfl, rfl, rfl, rfl, trivial⟩ ?_
     exact ⟨v1, x1, rfl, rfl, hC8⟩
    rintro l3 _ w14 hs3 ⟨v6, x10, rfl, rfl, hC14⟩
    try dsimp only at hL1
    refine blk_normal ?_
    refine nrm_sub' hs3 ?_
    clear hs3
    refine W_reg ?_
    refine WL_move rfl rfl ?_
    refine WL_add rfl rfl rfl ?_
    refine WL_assign rfl rfl ?_
    refine WL_nil ?_
    refine nrm_sub (l' := [(2, (ptr b1 0)), (3, (ptr b2 0)), (5, v6), (6, (.int .i64 (w64 (x2 + 1))))]) ⟨rfl, rfl, rfl, rfl, trivial⟩ ?_
    exact ⟨k1, Nat.lt_succ_self _, v6, x10, w64 (x2 + 1), rfl, hC14, hL1⟩
   replace hL1 := ite_f hL1 hc1
   refine W_exit (nrm_exit (nrm_exit (blk_exit ?_)))
   have hq6 := Option.some.inj hL1
   subst hq6
   have hC19 := hC7.h1
   refine nrm_sub (l' := [(5, v1)]) ⟨rfl, trivial⟩ ?_
   exact ⟨v1, x1, rfl, rfl, hC19⟩
 rintro l4 _ w19 hs4 ⟨v2, x3, rfl, rfl, hC20⟩
 try dsimp only at hF
 refine nrm_sub' hs4 ?_
 clear hs4
 refine W_seq_reg ?_
 refine WL_move rfl rfl ?_
 refine WL_assign rfl rfl ?_
 refine WL_nil (W_ret ?_)
 have hq7 := Option.some.inj hF
 subst hq7
 refine fn_ret1 rfl rfl ?_
 exact ⟨_, rfl, own_res hC20 0 rfl⟩

theorem c_S_l6Bind {w0 : World} (a1 : (List Int)) (u1 : Value) (g1 : RO [] w0 u1 a1) (a2 : (Int × (List Int))) (u2 : Value) (g2 : RO [] w0 u2 a2.2) (rr : (List Int)) (hF : S.l6Bind a1 a2 = some rr) :
 Calls Tryz.prog 57 [u1, (.agg #[(.int .i64 a2.1), u2])].toArray w0 fun e w' => ∃ v, e = .returned v ∧ Res w0 rr v w' := by
 refine calls_of_W Tryz.func57 rfl rfl ?_
 have hC0 := Ctx.start w0
 unfold S.l6Bind at hF
 refine W_seq_reg ?_
 refine WL_boxK (cs := [(.int .i64 a2.1), u2]) hC0 rfl rfl rfl (fun b1 w1 hC1 hB1 hN1 => ?_)
 refine WL_assign rfl rfl ?_
 refine WL_nil (W_seq_reg ?_)
 refine WL_buildSlice (vs := []) hC1 Tryz.underlying22 ty3 rfl rfl rfl rfl (by simp) rfl rfl (fun b2 w2 hC2 hB2 => ?_)
 have hC3 := hC2.row0 (α := Int)
 have hC4 := hC3.front 1 rfl
 dsimp only [List.eraseIdx, List.cons_append, List.nil_append, List.append_nil] at hC4
 have hC5 : Ctx [] w0 w2 (Item.own (.slice (some ⟨b2, 0, none⟩) 0 0) (([] : List Int) : List Int) :: [Item.box b1 [(.int .i64 a2.1), u2]]) := hC4.rowOwn (by simp [maxLen])
 refine WL_move rfl rfl ?_
 obtain ⟨x1, hx1, hF⟩ := bind_some hF
 refine WL_append_flat (α := Int) hC5 0 rfl g1 hC5.keep Tryz.underlying22 ty3 rfl hx1 rfl rfl rfl (fun v1 w3 hC6 => ?_)
 try dsimp only [List.set] at hC6
 refine WL_assign rfl rfl ?_
 refine WL_nil (W_seq (W_seq_reg ?_))
 refine WL_assign rfl rfl ?_
 refine WL_nil ?_
 obtain ⟨r1, hr1, hF⟩ := bind_some hF
 refine W_norm (fun l w => ∃ v3 : Value, ∃ x4 : (List Int), x4 = r1 ∧ l = [(5, v3)] ∧ Ctx [] w0 w [Item.own v3 (x4 : (List Int))]) ?_ ?_
 ·refine W_block ?_
  refine W.sub (l' := [(3, (ptr b1 0)), (5, v1), (6, (.int .i64 0))]) ?_ ⟨rfl, rfl, rfl, trivial⟩
  refine W_loop (fun k l w => ∃ v2 : Value, ∃ x2 : (List Int), ∃ x3 : Int, l = [(3, (ptr b1 0)), (5, v2), (6, (.int .i64 x3))] ∧ Ctx [] w0 w [Item.own v2 (x2 : (List Int)), Item.box b1 [(.int .i64 a2.1), u2]] ∧ S.l6Bind_l1 a2 k x2 x3 = some r1) FUEL ⟨v1, x1, 0, rfl, hC6, hr1⟩ ?_
  clear hr1
  rintro k1 _ w4 ⟨v2, x2, x3, rfl, hC7, hL1⟩
  cases k1 with
  | zero => rw [S.l6Bind_l1] at hL1; cases hL1
  | succ k1 =>
   rw [S.l6Bind_l1] at hL1
   refine W_seq (W_seq_reg ?_)
   refine WL_move rfl rfl ?_
   refine WL_field Tryz.underlying84 rfl rfl (fun w => ⟨_, Tryz.sizeOf22 w⟩) rfl rfl ?_
   refine WL_load_box hC7 1 rfl rfl Tryz.isAgg22 rfl rfl ?_
   refine WL_len Tryz.underlying22 g2 rfl rfl ?_
   refine WL_lss rfl rfl rfl ?_
   refine WL_nil ?_
   refine W_cond rfl (fun hc1 => ?_) (fun hc1 => ?_)
   ·replace hL1 := ite_t hL1 hc1
    refine W_skip (nrm_normal (W_seq (W_block (W_seq_reg ?_))))
    refine WL_field Tryz.underlying84 rfl rfl (fun w => ⟨_, Tryz.sizeOf22 w⟩) rfl rfl ?_
    refine WL_load_box hC7 1 rfl rfl Tryz.isAgg22 rfl rfl ?_
    refine WL_move rfl rfl ?_
    obtain ⟨x5, hx2, hL1⟩ := bind_some hL1
    refine WL_index Tryz.underlying22 ty3 g2 hx2 rfl rfl rfl (fun b3 o1 h1 => ?_)
    refine WL_load ty3 h1 hC7.keep rfl rfl (fun v4 h2 => ?_)
    obtain rfl := ro_int h2
    obtain ⟨x6, hr2, hL1⟩ := bind_some hL1
    refine WL_call Tryz.call91 rfl rfl (c_S_IsVar x5 x6 hr2) ?_
    intro _ w5 hv1
    obtain ⟨rfl, hB4⟩ := res_bool hv1
    have hC8 := hC7.grow hB4
    refine WL_nil ?_
    obtain ⟨r2, hr3, hL1⟩ := bind_some hL1
    refine W_norm (fun l w => ∃ v5 : Value, ∃ x7 : (List Int), x7 = r2 ∧ l = [(3, (ptr b1 0)), (5, v5), (6, (.int .i64 x3))] ∧ Ctx [] w0 w [Item.own v5 (x7 : (List Int)), Item.box b1 [(.int .i64 a2.1), u2]]) ?_ ?_
    ·refine W_cond rfl (fun hc2 => ?_) (fun hc2 => ?_)
     ·replace hr3 := ite_t hr3 hc2
      refine W_reg ?_
      refine WL_move rfl rfl ?_
      refine WL_field Tryz.underlying84 rfl rfl (fun w => ⟨_, Tryz.sizeOf22 w⟩) rfl rfl ?_
      refine WL_load_box hC8 1 rfl rfl Tryz.isAgg22 rfl rfl ?_
      refine WL_move rfl rfl ?_
      obtain ⟨x8, hx3, hr3⟩ := bind_some hr3
      refine WL_index Tryz.underlying22 ty3 g2 hx3 rfl rfl rfl (fun b4 o2 h3 => ?_)
      refine WL_load ty3 h3 hC8.keep rfl rfl (fun v6 h4 => ?_)
      obtain rfl := ro_int h4
      obtain ⟨x9, hr4, hr3⟩ := bind_some hr3
      obtain ⟨Fs1, hH1, hn1, hF1, hO1, hb1⟩ := Ctx.lend2 (As := [Item.box b1 [(.int .i64 a2.1), u2]]) [Item.own v2 (x2 : (List Int))] hC8
      refine WL_call Tryz.call83 rfl rfl (c_S_l3Put_own x2 v2 x8 hH1 hn1 x9 hr4) ?_
      rintro v7 w7 ⟨_, rfl, hq1⟩
      have hC11 : Ctx [] w0 w7 [Item.own v7 (x9 : (List Int)), Item.box b1 [(.int .i64 a2.1), u2]] := hb1 _ _ hq1
      refine WL_assign rfl rfl ?_
      refine WL_nil ?_
      have hq2 := Option.some.inj hr3
      subst hq2
      refine nrm_sub (l' := [(3, (ptr b1 0)), (5, v7), (6, (.int .i64 x3))]) ⟨rfl, rfl, rfl, trivial⟩ ?_
      exact ⟨v7, x9, rfl, rfl, hC11⟩
     replace hr3 := ite_f hr3 hc2
     refine W_skip ?_
     have hq3 := Option.some.inj hr3
     subst hq3
     refine nrm_sub (l' := [(3, (ptr b1 0)), (5, v2), (6, (.int .i64 x3))]) ⟨rfl, rfl, rfl, trivial⟩ ?_
     exact ⟨v2, x2, rfl, rfl, hC8⟩
    rintro l2 _ w6 hs2 ⟨v5, x7, rfl, rfl, hC9⟩
    try dsimp only at hL1
    refine blk_normal ?_
    refine nrm_sub' hs2 ?_
    clear hs2
    refine W_reg ?_
    refine WL_move rfl rfl ?_
    refine WL_add rfl rfl rfl ?_
    refine WL_assign rfl rfl ?_
    refine WL_nil ?_
    refine nrm_sub (l' := [(3, (ptr b1 0)), (5, v5), (6, (.int .i64 (w64 (x3 + 1))))]) ⟨rfl, rfl, rfl, trivial⟩ ?_
    exact ⟨k1, Nat.lt_succ_self _, v5, x7, w64 (x3 + 1), rfl, hC9, hL1⟩
   replace hL1 := ite_f hL1 hc1
   refine W_exit (nrm_exit (nrm_exit (blk_exit ?_)))
   have hq4 := Option.some.inj hL1
   subst hq4
   have hC12 := hC7.h1
   refine nrm_sub (l' := [(5, v2)]) ⟨rfl, trivial⟩ ?_
   exact ⟨v2, x2, rfl, rfl, hC12⟩
 rintro l3 _ w9 hs3 ⟨v3, x4, rfl, rfl, hC13⟩
 try dsimp only at hF
 refine nrm_sub' hs3 ?_
 clear hs3
 refine W_seq_reg ?_
 refine WL_move rfl rfl ?_
 refine WL_assign rfl rfl ?_
 refine WL_nil (W_ret ?_)
 have hq5 := Option.some.inj hF
 subst hq5
 refine fn_ret1 rfl rfl ?_
 exact ⟨_, rfl, own_res hC13 0 rfl⟩

theorem c_S_FindPrivateOrder {w0 : World} (a1 : (List Int)) (u1 : Value) (g1 : RO [] w0 u1 a1) (a2 : (List (Int × (List Int) × Int × Int × Int))) (u2 : Value) (g2 : RO [] w0 u2 a2) (a3 : ((List Int) × (List (Int × (List Int))))) (u3 : Value) (g3 : RO [] w0 u3 a3.1) (u4 : Value) (g4 : RO [] w0 u4 a3.2) (a4 : (List Int)) (u5 : Value) (g5 : RO [] w0 u5 a4) (rr : ((List (Int × Int)) × Bool)) (hF : S.FindPrivateOrder a1 a2 a3 a4 = some rr) :
 Calls Tryz.prog 20 [u1, u2, (.agg #[u3, u4]), u5].toArray w0 fun e w' => ∃ v, e = .returned v ∧ Res2 w0 rr.1 rr.2 v w' := by
 refine calls_of_W Tryz.func20 rfl rfl ?_
 have hC0 := Ctx.start w0
 unfold S.FindPrivateOrder at hF
 refine W_seq_reg ?_
 refine WL_boxK (cs := [u3, u4]) hC0 rfl rfl rfl (fun b1 w1 hC1 hB1 hN1 => ?_)
 refine WL_assign rfl rfl ?_
 refine WL_assign rfl rfl ?_
 refine WL_nil (W_seq_reg ?_)
 refine WL_buildSlice (vs := []) hC1 Tryz.underlying39 ty75 rfl rfl rfl rfl (by simp) rfl rfl (fun b2 w2 hC2 hB2 => ?_)
 have hC3 := hC2.row0 (α := (Int × Int))
 have hC4 := hC3.front 1 rfl
 dsimp only [List.eraseIdx, List.cons_append, List.nil_append, List.append_nil] at hC4
 have hC5 : Ctx [] w0 w2 (Item.own (.slice (some ⟨b2, 0, none⟩) 0 0) (([] : List (Int × Int)) : List (Int × Int)) :: [Item.box b1 [u3, u4]]) := hC4.rowOwn (by simp [maxLen])
 refine WL_assign rfl rfl ?_
 refine WL_nil (W_seq (W_seq_reg ?_))
 refine WL_move rfl rfl ?_
 refine WL_move rfl rfl ?_
 refine WL_load_box_agg [u3, u4] hC5 1 rfl rfl rfl Tryz.isAgg37 Tryz.sizeOf37 rfl rfl ?_
 obtain ⟨x1, hr1, hF⟩ := bind_some hF
 refine WL_call Tryz.call53 rfl rfl (c_S_l6Fine a1 u1 (g1.now hC5.keep) a2 u2 (g2.now hC5.keep) (a3.1, a3.2) u3 (g3.now hC5.keep) u4 (g4.now hC5.keep) x1 hr1) ?_
 intro _ w3 hv1
 obtain ⟨rfl, hB3⟩ := res_bool hv1
 have hC6 := hC5.grow hB3
 refine WL_not rfl rfl ?_
 refine WL_nil ?_
 refine W_cond rfl (fun hc1 => ?_) (fun hc1 => ?_)
 ·replace hF := ite_t hF hc1
  refine W_seq_reg ?_
  refine WL_move rfl rfl ?_
  refine WL_assign rfl rfl ?_
  refine WL_assign rfl rfl ?_
  refine WL_nil (W_ret (nrm_ret ?_))
  have hq1 := Option.some.inj hF
  subst hq1
  refine fn_ret2 rfl rfl rfl ?_
  have hC7 := hC6.triv (bool_val (false))
  have hC8 := hC7.f1
  exact ⟨_, rfl, res2_of hC8⟩
 replace hF := ite_f hF hc1
 refine W_skip (nrm_normal (W_seq_reg ?_))
 refine WL_buildSlice (vs := []) hC6 Tryz.underlying22 ty3 rfl rfl rfl rfl (by simp) rfl rfl (fun b3 w4 hC9 hB4 => ?_)
 have hC10 := hC9.row0 (α := Int)
 have hC11 := hC10.front 1 rfl
 dsimp only [List.eraseIdx, List.cons_append, List.nil_append, List.append_nil] at hC11
 have hC12 : Ctx [] w0 w4 (Item.own (.slice (some ⟨b3, 0, none⟩) 0 0) (([] : List Int) : List Int) :: [Item.own (.slice (some ⟨b2, 0, none⟩) 0 0) (([] : List (Int × Int)) : (List (Int × Int))), Item.box b1 [u3, u4]]) := hC11.rowOwn (by simp [maxLen])
 refine WL_assign rfl rfl ?_
 refine WL_nil (W_seq_reg ?_)
 refine WL_buildSlice (vs := []) hC12 Tryz.underlying22 ty3 rfl rfl rfl rfl (by simp) rfl rfl (fun b4 w5 hC13 hB5 => ?_)
 have hC14 := hC13.row0 (α := Int)
 have hC15 := hC14.front 1 rfl
 dsimp only [List.eraseIdx, List.cons_append, List.nil_append, List.append_nil] at hC15
 have hC16 : Ctx [] w0 w5 (Item.own (.slice (some ⟨b4, 0, none⟩) 0 0) (([] : List Int) : List Int) :: [Item.own (.slice (some ⟨b3, 0, none⟩) 0 0) (([] : List Int) : (List Int)), Item.own (.slice (some ⟨b2, 0, none⟩) 0 0) (([] : List (Int × Int)) : (List (Int × Int))), Item.box b1 [u3, u4]]) := hC15.rowOwn (by simp [maxLen])
 refine WL_assign rfl rfl ?_
 refine WL_nil (W_seq (W_seq_reg ?_))
 refine WL_assign rfl rfl ?_
 refine WL_nil ?_
 obtain ⟨r1, hr2, hF⟩ := bind_some hF
 refine W_norm (fun l w => ∃ v4 : Value, ∃ x6 : (List (Int × Int)), .inl x6 = r1 ∧ l = [(10, v4)] ∧ Ctx [] w0 w [Item.own v4 (x6 : (List (Int × Int)))]) ?_ ?_
 ·refine W_block ?_
  refine W.sub (l' := [(1, u2), (3, u5), (6, (ptr b1 0)), (10, (.slice (some ⟨b2, 0, none⟩) 0 0)), (11, (.slice (some ⟨b3, 0, none⟩) 0 0)), (12, (.slice (some ⟨b4, 0, none⟩) 0 0)), (13, (.int .i64 0))]) ?_ ⟨rfl, rfl, rfl, rfl, rfl, rfl, rfl, trivial⟩
  refine W_loop (fun k l w => ∃ v1 : Value, ∃ x2 : (List (Int × Int)), ∃ v2 : Value, ∃ x3 : (List Int), ∃ v3 : Value, ∃ x4 : (List Int), ∃ x5 : Int, l = [(1, u2), (3, u5), (6, (ptr b1 0)), (10, v1), (11, v2), (12, v3), (13, (.int .i64 x5))] ∧ Ctx [] w0 w [Item.own v3 (x4 : (List Int)), Item.own v2 (x3 : (List Int)), Item.own v1 (x2 : (List (Int × Int))), Item.box b1 [u3, u4]] ∧ S.FindPrivateOrder_l1 a3 a2 a4 k x2 x3 x4 x5 = some r1) FUEL ⟨(.slice (some ⟨b2, 0, none⟩) 0 0), ([] : List (Int × Int)), (.slice (some ⟨b3, 0, none⟩) 0 0), ([] : List Int), (.slice (some ⟨b4, 0, none⟩) 0 0), ([] : List Int), 0, rfl, hC16, hr2⟩ ?_
  clear hr2
  rintro k1 _ w6 ⟨v1, x2, v2, x3, v3, x4, x5, rfl, hC17, hL1⟩
  cases k1 with
  | zero => rw [S.FindPrivateOrder_l1] at hL1; cases hL1
  | succ k1 =>
   rw [S.FindPrivateOrder_l1] at hL1
   refine W_seq (W_seq_reg ?_)
   refine WL_move rfl rfl ?_
   refine WL_field Tryz.underlying37 rfl rfl (fun w => ⟨_, Tryz.sizeOf35 w⟩) rfl rfl ?_
   refine WL_load_box hC17 3 rfl rfl Tryz.isAgg35 rfl rfl ?_
   refine WL_len Tryz.underlying35 g4 rfl rfl ?_
   refine WL_lss rfl rfl rfl ?_
   refine WL_nil ?_
   refine W_cond rfl (fun hc2 => ?_) (fun hc2 => ?_)
   ·replace hL1 := ite_t hL1 hc2
    refine W_skip (nrm_normal (W_seq (W_block (W_seq_reg ?_))))
    refine WL_assign rfl rfl ?_
    refine WL_nil (W_seq (W_seq_reg ?_))
    refine WL_assign rfl rfl ?_
    refine WL_nil ?_
    obtain ⟨r2, hr3, hL1⟩ := bind_some hL1
    refine W_norm (fun l w => ∃ v8 : Value, ∃ x12 : (List (Int × Int)), ∃ v9 : Value, ∃ x13 : (List Int), ∃ v10 : Value, ∃ x14 : (List Int), ∃ x15 : Bool, (x12, x13, x14, x15) = r2 ∧ l = [(1, u2), (3, u5), (6, (ptr b1 0)), (10, v8), (11, v9), (12, v10), (13, (.int .i64 x5)), (14, (.bool x15))] ∧ Ctx [] w0 w [Item.own v10 (x14 : (List Int)), Item.own v9 (x13 : (List Int)), Item.own v8 (x12 : (List (Int × Int))), Item.box b1 [u3, u4]]) ?_ ?_
    ·refine W_block ?_
     refine W.sub (l' := [(1, u2), (3, u5), (6, (ptr b1 0)), (10, v1), (11, v2), (12, v3), (13, (.int .i64 x5)), (14, (.bool false)), (15, (.int .i64 0))]) ?_ ⟨rfl, rfl, rfl, rfl, rfl, rfl, rfl, rfl, rfl, trivial⟩
     refine W_loop (fun k l w => ∃ v5 : Value, ∃ x7 : (List (Int × Int)), ∃ v6 : Value, ∃ x8 : (List Int), ∃ v7 : Value, ∃ x9 : (List Int), ∃ x10 : Bool, ∃ x11 : Int, l = [(1, u2), (3, u5), (6, (ptr b1 0)), (10, v5), (11, v6), (12, v7), (13, (.int .i64 x5)), (14, (.bool x10)), (15, (.int .i64 x11))] ∧ Ctx [] w0 w [Item.own v7 (x9 : (List Int)), Item.own v6 (x8 : (List Int)), Item.own v5 (x7 : (List (Int × Int))), Item.box b1 [u3, u4]] ∧ S.FindPrivateOrder_l2 a3 a2 a4 k x7 x8 x9 x10 x11 = some r2) FUEL ⟨v1, x2, v2, x3, v3, x4, false, 0, rfl, hC17, hr3⟩ ?_
     clear hr3
     rintro k2 _ w7 ⟨v5, x7, v6, x8, v7, x9, x10, x11, rfl, hC18, hL2⟩
     cases k2 with
     | zero => rw [S.FindPrivateOrder_l2] at hL2; cases hL2
     | succ k2 =>
      rw [S.FindPrivateOrder_l2] at hL2
      refine W_seq ?_
      obtain ⟨r3, hr4, hL2⟩ := bind_some hL2
      refine W_cut (fun l w => ∃ x16 : Bool, x16 = r3 ∧ l = [(1, u2), (3, u5), (6, (ptr b1 0)), (10, v5), (11, v6), (12, v7), (13, (.int .i64 x5)), (14, (.bool x10)), (15, (.int .i64 x11)), (41, (.bool x16))] ∧ Below w7.heap.size w7 w ∧ Ctx [] w0 w [Item.own v7 (x9 : (List Int)), Item.own v6 (x8 : (List Int)), Item.own v5 (x7 : (List (Int × Int))), Item.box b1 [u3, u4]]) ?_ ?_
      ·refine W_reg ?_
       refine WL_move rfl rfl ?_
       refine WL_field Tryz.underlying37 rfl rfl (fun w => ⟨_, Tryz.sizeOf35 w⟩) rfl rfl ?_
       refine WL_load_box hC18 3 rfl rfl Tryz.isAgg35 rfl rfl ?_
       refine WL_len Tryz.underlying35 g4 rfl rfl ?_
       refine WL_lss rfl rfl rfl ?_
       refine WL_move rfl rfl ?_
       refine WL_fork (fun hc3 => ?_) (fun hc3 => ?_)
       ·replace hr4 := ite_t hr4 hc3
        refine WL_guard rfl rfl ?_
        refine WL_move rfl rfl ?_
        refine WL_guard rfl rfl ?_
        refine WL_not rfl rfl ?_
        refine WL_pick_t rfl rfl rfl ?_
        refine WL_nil ?_
        have hq2 := Option.some.inj hr4
        subst hq2
        refine nrm_sub (l' := [(1, u2), (3, u5), (6, (ptr b1 0)), (10, v5), (11, v6), (12, v7), (13, (.int .i64 x5)), (14, (.bool x10)), (15, (.int .i64 x11)), (41, (.bool (!x10)))]) ⟨rfl, rfl, rfl, rfl, rfl, rfl, rfl, rfl, rfl, rfl, trivial⟩ ?_
        exact ⟨(!x10), rfl, rfl, (Below.refl _ _), hC18⟩
       replace hr4 := ite_f hr4 hc3
       refine WL_guard_skip rfl rfl (by simp) rfl ?_
       refine WL_guard_skip rfl rfl (by simp) rfl ?_
       refine WL_pick_f rfl rfl rfl ?_
       refine WL_nil ?_
       have hq3 := Option.some.inj hr4
       subst hq3
       refine nrm_sub (l' := [(1, u2), (3, u5), (6, (ptr b1 0)), (10, v5), (11, v6), (12, v7), (13, (.int .i64 x5)), (14, (.bool x10)), (15, (.int .i64 x11)), (41, (.bool false))]) ⟨rfl, rfl, rfl, rfl, rfl, rfl, rfl, rfl, rfl, rfl, trivial⟩ ?_
       exact ⟨false, rfl, rfl, (Below.refl _ _), hC18⟩
      rintro _ w9 ⟨x16, rfl, rfl, hB8, hC19⟩
      try dsimp only at hL2
      refine W_cond rfl (fun hc4 => ?_) (fun hc4 => ?_)
      ·replace hL2 := ite_t hL2 hc4
       refine W_skip (nrm_normal (W_seq (W_block (W_seq_reg ?_))))
       refine WL_assign rfl rfl ?_
       refine WL_nil ?_
       obtain ⟨r4, hr5, hL2⟩ := bind_some hL2
       refine W_norm (fun l w => ∃ v14 : Value, ∃ x22 : (List (Int × Int)), ∃ v15 : Value, ∃ x23 : (List Int), ∃ v16 : Value, ∃ x24 : (List Int), ∃ x25 : Bool, (x22, x23, x24, x25) = r4 ∧ l = [(1, u2), (3, u5), (6, (ptr b1 0)), (10, v14), (11, v15), (12, v16), (13, (.int .i64 x5)), (14, (.bool x25)), (15, (.int .i64 x11))] ∧ Ctx [] w0 w [Item.own v16 (x24 : (List Int)), Item.own v15 (x23 : (List Int)), Item.own v14 (x22 : (List (Int × Int))), Item.box b1 [u3, u4]]) ?_ ?_
       ·refine W_block ?_
        refine W.sub (l' := [(1, u2), (3, u5), (6, (ptr b1 0)), (10, v5), (11, v6), (12, v7), (13, (.int .i64 x5)), (14, (.bool x10)), (15, (.int .i64 x11)), (16, (.int .i64 0))]) ?_ ⟨rfl, rfl, rfl, rfl, rfl, rfl, rfl, rfl, rfl, rfl, trivial⟩
        refine W_loop (fun k l w => ∃ v11 : Value, ∃ x17 : (List (Int × Int)), ∃ v12 : Value, ∃ x18 : (List Int), ∃ v13 : Value, ∃ x19 : (List Int), ∃ x20 : Bool, ∃ x21 : Int, l = [(1, u2), (3, u5), (6, (ptr b1 0)), (10, v11), (11, v12), (12, v13), (13, (.int .i64 x5)), (14, (.bool x20)), (15, (.int .i64 x11)), (16, (.int .i64 x21))] ∧ Ctx [] w0 w [Item.own v13 (x19 : (List Int)), Item.own v12 (x18 : (List Int)), Item.own v11 (x17 : (List (Int × Int))), Item.box b1 [u3, u4]] ∧ S.FindPrivateOrder_l3 a2 x11 a3 a4 k x17 x18 x19 x20 x21 = some r4) FUEL ⟨v5, x7, v6, x8, v7, x9, x10, 0, rfl, hC19, hr5⟩ ?_
        clear hr5
        rintro k3 _ w10 ⟨v11, x17, v12, x18, v13, x19, x20, x21, rfl, hC20, hL3⟩
        cases k3 with
        | zero => rw [S.FindPrivateOrder_l3] at hL3; cases hL3
        | succ k3 =>
         rw [S.FindPrivateOrder_l3] at hL3
         refine W_seq ?_
         obtain ⟨r5, hr6, hL3⟩ := bind_some hL3
         refine W_cut (fun l w => ∃ x26 : Bool, x26 = r5 ∧ l = [(1, u2), (3, u5), (6, (ptr b1 0)), (10, v11), (11, v12), (12, v13), (13, (.int .i64 x5)), (14, (.bool x20)), (15, (.int .i64 x11)), (16, (.int .i64 x21)), (57, (.bool x26))] ∧ Below w10.heap.size w10 w ∧ Ctx [] w0 w [Item.own v13 (x19 : (List Int)), Item.own v12 (x18 : (List Int)), Item.own v11 (x17 : (List (Int × Int))), Item.box b1 [u3, u4]]) ?_ ?_
         ·refine W_reg ?_
          refine WL_move rfl rfl ?_
          refine WL_move rfl rfl ?_
          refine WL_len Tryz.underlying33 g2 rfl rfl ?_
          refine WL_lss rfl rfl rfl ?_
          refine WL_move rfl rfl ?_
          refine WL_fork (fun hc5 => ?_) (fun hc5 => ?_)
          ·replace hr6 := ite_t hr6 hc5
           refine WL_guard rfl rfl ?_
           refine WL_move rfl rfl ?_
           refine WL_guard rfl rfl ?_
           refine WL_not rfl rfl ?_
           refine WL_pick_t rfl rfl rfl ?_
           refine WL_move rfl rfl ?_
           refine WL_fork (fun hc6 => ?_) (fun hc6 => ?_)
           ·replace hr6 := ite_t hr6 hc6
            refine WL_guard rfl rfl ?_
            refine WL_move rfl rfl ?_
            refine WL_guard rfl rfl ?_
            refine WL_move rfl rfl ?_
            obtain ⟨x27, hr7, hr6⟩ := bind_some hr6
            refine WL_guard rfl rfl ?_
            refine WL_call Tryz.call54 rfl rfl (c_S_l2Has x19 v13 ((hC20.ro 0 rfl).now (Keep.refl _ _)) x11 x27 hr7) ?_
            intro _ w12 hv2
            obtain ⟨rfl, hB11⟩ := res_bool hv2
            have hC22 := hC20.grow hB11
            refine WL_guard rfl rfl ?_
            refine WL_not rfl rfl ?_
            refine WL_pick_t rfl rfl rfl ?_
            refine WL_nil ?_
            have hq4 := Option.some.inj hr6
            subst hq4
            refine nrm_sub (l' := [(1, u2), (3, u5), (6, (ptr b1 0)), (10, v11), (11, v12), (12, v13), (13, (.int .i64 x5)), (14, (.bool x20)), (15, (.int .i64 x11)), (16, (.int .i64 x21)), (57, (.bool (!x27)))]) ⟨rfl, rfl, rfl, rfl, rfl, rfl, rfl, rfl, rfl, rfl, rfl, trivial⟩ ?_
            exact ⟨(!x27), rfl, rfl, (Keep.of hB11).below, hC22⟩
           replace hr6 := ite_f hr6 hc6
           refine WL_guard_skip rfl rfl (by simp) rfl ?_
           refine WL_guard_skip rfl rfl (by simp) rfl ?_
           refine WL_guard_skip rfl rfl (by simp) rfl ?_
           refine WL_guard_skip rfl rfl (by simp) rfl ?_
           refine WL_pick_f rfl rfl rfl ?_
           refine WL_nil ?_
           have hq5 := Option.some.inj hr6
           subst hq5
           refine nrm_sub (l' := [(1, u2), (3, u5), (6, (ptr b1 0)), (10, v11), (11, v12), (12, v13), (13, (.int .i64 x5)), (14, (.bool x20)), (15, (.int .i64 x11)), (16, (.int .i64 x21)), (57, (.bool false))]) ⟨rfl, rfl, rfl, rfl, rfl, rfl, rfl, rfl, rfl, rfl, rfl, trivial⟩ ?_
           exact ⟨false, rfl, rfl, (Below.refl _ _), hC20⟩
          replace hr6 := ite_f hr6 hc5
          refine WL_guard_skip rfl rfl (by simp) rfl ?_
          refine WL_guard_skip rfl rfl (by simp) rfl ?_
          refine WL_pick_f rfl rfl rfl ?_
          refine WL_move rfl rfl ?_
          refine WL_guard_skip rfl rfl (by simp) rfl ?_
          refine WL_guard_skip rfl rfl (by simp) rfl ?_
          refine WL_guard_skip rfl rfl (by simp) rfl ?_
          refine WL_guard_skip rfl rfl (by simp) rfl ?_
          refine WL_pick_f rfl rfl rfl ?_
          refine WL_nil ?_
          have hq6 := Option.some.inj hr6
          subst hq6
          refine nrm_sub (l' := [(1, u2), (3, u5), (6, (ptr b1 0)), (10, v11), (11, v12), (12, v13), (13, (.int .i64 x5)), (14, (.bool x20)), (15, (.int .i64 x11)), (16, (.int .i64 x21)), (57, (.bool false))]) ⟨rfl, rfl, rfl, rfl, rfl, rfl, rfl, rfl, rfl, rfl, rfl, trivial⟩ ?_
          exact ⟨false, rfl, rfl, (Below.refl _ _), hC20⟩
         rintro _ w11 ⟨x26, rfl, rfl, hB10, hC21⟩
         try dsimp only at hL3
         refine W_cond rfl (fun hc7 => ?_) (fun hc7 => ?_)
         ·replace hL3 := ite_t hL3 hc7
          refine W_skip (nrm_normal (W_seq (W_block ?_)))
          obtain ⟨r6, hr8, hL3⟩ := bind_some hL3
          refine W_cut (fun l w => ∃ x28 : Bool, x28 = r6 ∧ l = [(1, u2), (3, u5), (6, (ptr b1 0)), (10, v11), (11, v12), (12, v13), (13, (.int .i64 x5)), (14, (.bool x20)), (15, (.int .i64 x11)), (16, (.int .i64 x21)), (85, (.bool x28))] ∧ Below w11.heap.size w11 w ∧ Ctx [] w0 w [Item.own v13 (x19 : (List Int)), Item.own v12 (x18 : (List Int)), Item.own v11 (x17 : (List (Int × Int))), Item.box b1 [u3, u4]]) ?_ ?_
          ·refine W_drawn 26 rfl hmix (fun w14 hB13 => ?_)
           have hC24 := hC21.grow hB13
           refine WA_tk 0 (by kernel_rfl) rfl rfl (fl_move rfl) ?_
           refine WL_move rfl rfl ?_
           refine WL_nil ?_
           refine WA_tk 1 (by kernel_rfl) rfl rfl (fl_move rfl) ?_
           refine WL_move rfl rfl ?_
           refine WL_nil ?_
           obtain ⟨x29, hx1, hr8⟩ := bind_some hr8
           refine WA_tk 2 (by kernel_rfl) rfl rfl (fl_index Tryz.underlying33 ty71 g2 hx1 rfl rfl) ?_
           refine WL_index Tryz.underlying33 ty71 g2 hx1 rfl rfl rfl (fun b5 o1 h1 => ?_)
           refine WL_nil ?_
           refine WA_tk 4 (by kernel_rfl) rfl rfl (fl_field Tryz.underlying37 rfl rfl (fun w => ⟨_, Tryz.sizeOf35 w⟩) rfl) ?_
           refine WL_field Tryz.underlying37 rfl rfl (fun w => ⟨_, Tryz.sizeOf35 w⟩) rfl rfl ?_
           refine WL_nil ?_
           refine WA_tk 6 (by kernel_rfl) rfl rfl (fl_move rfl) ?_
           refine WL_move rfl rfl ?_
           refine WL_nil ?_
           refine WA_tk 9 (by kernel_rfl) rfl rfl (fl_move rfl) ?_
           refine WL_move rfl rfl ?_
           refine WL_nil ?_
           obtain ⟨x30, hx2, hr8⟩ := bind_some hr8
           refine WA.sub (l' := [(1, u2), (3, u5), (6, (ptr b1 0)), (10, v11), (11, v12), (12, v13), (13, (.int .i64 x5)), (14, (.bool x20)), (15, (.int .i64 x11)), (16, (.int .i64 x21)), (57, (.bool x26)), (60, u2), (61, (.int .i64 x21)), (62, (ptr b5 o1)), (64, (ptr b1 1)), (66, (.int .i64 x11)), (69, v12)]) ?_ ⟨rfl, rfl, rfl, rfl, rfl, rfl, rfl, rfl, rfl, rfl, rfl, rfl, rfl, rfl, rfl, rfl, rfl, trivial⟩
           refine WA_postsE [⟨3, [], fun vs => PW.ro [] w0 x29, []⟩, ⟨5, [], fun vs => PW.val u4, []⟩, ⟨7, [], fun vs => PW.at [] w0 x30, []⟩, ⟨8, [], fun vs => PW.ro [] w0 x30, []⟩] [[], [], [5], [7]] 16 rfl (by kernel_rfl) (by kernel_rfl) rfl ?_ ?_
           ·refine StepsE_cons rfl ?_ ?_
            ·intro w15 hB14
             refine DepsE_nil ?_
             refine ⟨_, rfl, ?_⟩
             refine WL_load ty71 h1 (hC24.keep.then hB14) rfl rfl (fun v19 h4 => ?_)
             refine WL_nil ?_
             exact FinE_val (Below.refl _ _) rfl rfl ⟨rfl, h4⟩
            refine StepsE_cons rfl ?_ ?_
            ·intro w15 hB14
             refine DepsE_nil ?_
             refine ⟨_, rfl, ?_⟩
             refine WL_load_box (hC24.grow hB14) 3 rfl rfl Tryz.isAgg35 rfl rfl ?_
             refine WL_nil ?_
             exact FinE_val (Below.refl _ _) rfl rfl ⟨rfl, rfl⟩
            refine StepsE_cons rfl ?_ ?_
            ·intro w15 hB14
             refine DepsE_cons rfl rfl rfl ?_
             rintro _ _ ⟨rfl, rfl⟩ _
             refine DepsE_nil ?_
             refine ⟨_, rfl, ?_⟩
             refine WL_index Tryz.underlying35 ty84 g4 hx2 rfl rfl rfl (fun b6 o2 h5 => ?_)
             refine WL_nil ?_
             exact FinE_val (Below.refl _ _) rfl rfl ⟨rfl, _, _, rfl, h5⟩
            refine StepsE_cons rfl ?_ ?_
            ·intro w15 hB14
             refine DepsE_cons rfl rfl rfl ?_
             rintro _ _ ⟨rfl, b6, o2, rfl, h5⟩ _
             refine DepsE_nil ?_
             refine ⟨_, rfl, ?_⟩
             refine WL_load ty84 h5 (hC24.keep.then hB14) rfl rfl (fun v22 h8 => ?_)
             refine WL_nil ?_
             exact FinE_val (Below.refl _ _) rfl rfl ⟨rfl, h8⟩
            exact StepsE_nil
           intro w16 hB15
           refine AllE_cons rfl rfl rfl ?_
           rintro v19 _ ⟨rfl, h4⟩
           obtain ⟨v18, rfl, h3⟩ := ro_st71 h4
           refine AllE_cons rfl rfl rfl ?_
           rintro _ _ ⟨rfl, rfl⟩
           refine AllE_cons rfl rfl rfl ?_
           rintro _ _ ⟨rfl, b6, o2, rfl, h5⟩
           refine AllE_cons rfl rfl rfl ?_
           rintro v22 _ ⟨rfl, h8⟩
           obtain ⟨v21, rfl, h7⟩ := ro_st84 h8
           refine AllE_nil ?_
           intro hn1 hb1
           have hC25 := hC24.grow hB15
           obtain ⟨x31, hr9, hr8⟩ := bind_some hr8
           refine WA_one 10 (by kernel_rfl) rfl ?_
           refine WL_call Tryz.call55 rfl rfl (c_S_CanCall x29 v18 (h3.now hC25.keep) x30 v21 (h7.now hC25.keep) x18 v12 ((hC25.ro 1 rfl).now (Keep.refl _ _)) x31 hr9) ?_
           intro _ w17 hv3
           obtain ⟨rfl, hB16⟩ := res_bool hv3
           have hC26 := hC25.grow hB16
           refine WL_nil ?_
           refine WA_tk 11 (by kernel_rfl) rfl rfl (fl_move rfl) ?_
           refine WL_move rfl rfl ?_
           refine WL_nil ?_
           refine WA_fork (fun hc8 => ?_) (fun hc8 => ?_)
           ·replace hr8 := ite_t hr8 hc8
            refine WA_takeG 12 rfl (by kernel_rfl) (by kernel_rfl) (by kernel_rfl) rfl rfl rfl (fl_move rfl) ?_
            refine WL_guard rfl rfl ?_
            refine WL_move rfl rfl ?_
            refine WL_nil ?_
            refine WA_takeG 13 rfl (by kernel_rfl) (by kernel_rfl) (by kernel_rfl) rfl rfl rfl (fl_move rfl) ?_
            refine WL_guard rfl rfl ?_
            refine WL_move rfl rfl ?_
            refine WL_nil ?_
            obtain ⟨x32, hx3, hr8⟩ := bind_some hr8
            refine WA_takeG 14 rfl (by kernel_rfl) (by kernel_rfl) (by kernel_rfl) rfl rfl rfl (fl_index Tryz.underlying33 ty71 g2 hx3 rfl rfl) ?_
            refine WL_guard rfl rfl ?_
            refine WL_index Tryz.underlying33 ty71 g2 hx3 rfl rfl rfl (fun b7 o3 h9 => ?_)
            refine WL_nil ?_
            refine WA_takeG 16 rfl (by kernel_rfl) (by kernel_rfl) (by kernel_rfl) rfl rfl rfl (fl_field Tryz.underlying37 rfl rfl (fun w => ⟨_, Tryz.sizeOf35 w⟩) rfl) ?_
            refine WL_guard rfl rfl ?_
            refine WL_field Tryz.underlying37 rfl rfl (fun w => ⟨_, Tryz.sizeOf35 w⟩) rfl rfl ?_
            refine WL_nil ?_
            refine WA_takeG 18 rfl (by kernel_rfl) (by kernel_rfl) (by kernel_rfl) rfl rfl rfl (fl_move rfl) ?_
            refine WL_guard rfl rfl ?_
            refine WL_move rfl rfl ?_
            refine WL_nil ?_
            refine WA_takeG 22 rfl (by kernel_rfl) (by kernel_rfl) (by kernel_rfl) rfl rfl rfl (fl_move rfl) ?_
            refine WL_guard rfl rfl ?_
            refine WL_move rfl rfl ?_
            refine WL_nil ?_
            obtain ⟨x33, hx4, hr8⟩ := bind_some hr8
            refine WA.sub (l' := [(1, u2), (3, u5), (6, (ptr b1 0)), (10, v11), (11, v12), (12, v13), (13, (.int .i64 x5)), (14, (.bool x20)), (15, (.int .i64 x11)), (16, (.int .i64 x21)), (57, (.bool x26)), (60, u2), (61, (.int .i64 x21)), (62, (ptr b5 o1)), (63, (.agg #[(.int .i64 x29.1), v18, (.int .i64 x29.2.2.1), (.int .i64 x29.2.2.2.1), (.int .i64 x29.2.2.2.2)])), (64, (ptr b1 1)), (65, u4), (66, (.int .i64 x11)), (67, (ptr b6 o2)), (68, (.agg #[(.int .i64 x30.1), v21])), (69, v12), (70, (.bool x31)), (71, (.bool true)), (72, u2), (73, (.int .i64 x21)), (74, (ptr b7 o3)), (76, (ptr b1 1)), (78, (.int .i64 x11)), (82, u5)]) ?_ ⟨rfl, rfl, rfl, rfl, rfl, rfl, rfl, rfl, rfl, rfl, rfl, rfl, rfl, rfl, rfl, rfl, rfl, rfl, rfl, rfl, rfl, rfl, rfl, rfl, rfl, rfl, rfl, rfl, rfl, trivial⟩
            refine WA_postsE [⟨15, [], fun vs => PW.ro [] w0 x32, []⟩, ⟨17, [], fun vs => PW.val u4, []⟩, ⟨19, [], fun vs => PW.at [] w0 x33, []⟩, ⟨20, [], fun vs => PW.ro [] w0 x33, []⟩] [[], [], [17], [19]] 4 rfl (by kernel_rfl) (by kernel_rfl) rfl ?_ ?_
            ·refine StepsE_cons rfl ?_ ?_
             ·intro w18 hB17
              refine DepsE_nil ?_
              refine ⟨_, rfl, ?_⟩
              refine WL_guard rfl rfl ?_
              refine WL_load ty71 h9 (hC26.keep.then hB17) rfl rfl (fun v25 h12 => ?_)
              refine WL_nil ?_
              exact FinE_val (Below.refl _ _) rfl rfl ⟨rfl, h12⟩
             refine StepsE_cons rfl ?_ ?_
             ·intro w18 hB17
              refine DepsE_nil ?_
              refine ⟨_, rfl, ?_⟩
              refine WL_guard rfl rfl ?_
              refine WL_load_box (hC26.grow hB17) 3 rfl rfl Tryz.isAgg35 rfl rfl ?_
              refine WL_nil ?_
              exact FinE_val (Below.refl _ _) rfl rfl ⟨rfl, rfl⟩
             refine StepsE_cons rfl ?_ ?_
             ·intro w18 hB17
              refine DepsE_cons rfl rfl rfl ?_
              rintro _ _ ⟨rfl, rfl⟩ _
              refine DepsE_nil ?_
              refine ⟨_, rfl, ?_⟩
              refine WL_guard rfl rfl ?_
              refine WL_index Tryz.underlying35 ty84 g4 hx4 rfl rfl rfl (fun b8 o4 h13 => ?_)
              refine WL_nil ?_
              exact FinE_val (Below.refl _ _) rfl rfl ⟨rfl, _, _, rfl, h13⟩
             refine StepsE_cons rfl ?_ ?_
             ·intro w18 hB17
              refine DepsE_cons rfl rfl rfl ?_
              rintro _ _ ⟨rfl, b8, o4, rfl, h13⟩ _
              refine DepsE_nil ?_
              refine ⟨_, rfl, ?_⟩
              refine WL_guard rfl rfl ?_
              refine WL_load ty84 h13 (hC26.keep.then hB17) rfl rfl (fun v28 h16 => ?_)
              refine WL_nil ?_
              exact FinE_val (Below.refl _ _) rfl rfl ⟨rfl, h16⟩
             exact StepsE_nil
            intro w19 hB18
            refine AllE_cons rfl rfl rfl ?_
            rintro v25 _ ⟨rfl, h12⟩
            obtain ⟨v24, rfl, h11⟩ := ro_st71 h12
            refine AllE_cons rfl rfl rfl ?_
            rintro _ _ ⟨rfl, rfl⟩
            refine AllE_cons rfl rfl rfl ?_
            rintro _ _ ⟨rfl, b8, o4, rfl, h13⟩
            refine AllE_cons rfl rfl rfl ?_
            rintro v28 _ ⟨rfl, h16⟩
            obtain ⟨v27, rfl, h15⟩ := ro_st84 h16
            refine AllE_nil ?_
            intro hn2 hb2
            have hC27 := hC26.grow hB18
            obtain ⟨x34, hr10, hr8⟩ := bind_some hr8
            refine WA_one 21 (by kernel_rfl) rfl ?_
            refine WL_guard rfl rfl ?_
            refine WL_call Tryz.call56 rfl rfl (c_S_l30Passed x32 v24 (h11.now hC27.keep) x33 v27 (h15.now hC27.keep) x34 hr10) ?_
            rintro v29 w20 ⟨hB19, F1, hv4, hn3, hb3⟩
            have hC28 := hC27.push hB19 (A := Item.own v29 x34) hv4 hn3 hb3
            refine WL_nil ?_
            obtain ⟨x35, hr11, hr8⟩ := bind_some hr8
            refine WA_one 23 (by kernel_rfl) rfl ?_
            refine WL_guard rfl rfl ?_
            refine WL_call Tryz.call44 rfl rfl (c_S_l30Meets x34 v29 ((hC28.ro 0 rfl).now (Keep.refl _ _)) a4 u5 (g5.now hC28.keep) x35 hr11) ?_
            intro _ w21 hv5
            obtain ⟨rfl, hB20⟩ := res_bool hv5
            have hC29 := hC28.grow hB20
            refine WL_nil ?_
            refine WA_takeG 24 rfl (by kernel_rfl) (by kernel_rfl) (by kernel_rfl) rfl rfl rfl (fl_not rfl) ?_
            refine WL_guard rfl rfl ?_
            refine WL_not rfl rfl ?_
            refine WL_nil ?_
            refine WA_tk 25 (by kernel_rfl) rfl rfl (fl_pick_t rfl rfl) ?_
            refine WL_pick_t rfl rfl rfl ?_
            refine WL_nil ?_
            refine WA_done (by kernel_rfl) ?_
            have hq7 := Option.some.inj hr8
            subst hq7
            have hC30 := hC29.f4
            have hC31 := hC30.f4
            have hC32 := hC31.f4
            have hC33 := hC32.f4
            have hC34 := hC33.h4
            refine nrm_sub (l' := [(1, u2), (3, u5), (6, (ptr b1 0)), (10, v11), (11, v12), (12, v13), (13, (.int .i64 x5)), (14, (.bool x20)), (15, (.int .i64 x11)), (16, (.int .i64 x21)), (85, (.bool (!x35)))]) ⟨rfl, rfl, rfl, rfl, rfl, rfl, rfl, rfl, rfl, rfl, rfl, trivial⟩ ?_
            exact ⟨(!x35), rfl, rfl, ((((((Keep.of hB13).then hB15).then hB16).then hB18).then hB19).then hB20).below, hC34⟩
           replace hr8 := ite_f hr8 hc8
           refine WA_sk 12 (by kernel_rfl) rfl rfl rfl rfl (by simp) rfl rfl ?_
           refine WA_sk 13 (by kernel_rfl) rfl rfl rfl rfl (by simp) rfl rfl ?_
           refine WA_sk 14 (by kernel_rfl) rfl rfl rfl rfl (by simp) rfl rfl ?_
           refine WA_sk 15 (by kernel_rfl) rfl rfl rfl rfl (by simp) rfl rfl ?_
           refine WA_sk 16 (by kernel_rfl) rfl rfl rfl rfl (by simp) rfl rfl ?_
           refine WA_sk 17 (by kernel_rfl) rfl rfl rfl rfl (by simp) rfl rfl ?_
           refine WA_sk 18 (by kernel_rfl) rfl rfl rfl rfl (by simp) rfl rfl ?_
           refine WA_sk 19 (by kernel_rfl) rfl rfl rfl rfl (by simp) rfl rfl ?_
           refine WA_sk 20 (by kernel_rfl) rfl rfl rfl rfl (by simp) rfl rfl ?_
           refine WA_sk 21 (by kernel_rfl) rfl rfl rfl rfl (by simp) rfl rfl ?_
           refine WA_sk 22 (by kernel_rfl) rfl rfl rfl rfl (by simp) rfl rfl ?_
           refine WA_sk 23 (by kernel_rfl) rfl rfl rfl rfl (by simp) rfl rfl ?_
           refine WA_sk 24 (by kernel_rfl) rfl rfl rfl rfl (by simp) rfl rfl ?_
           refine WA_tk 25 (by kernel_rfl) rfl rfl (fl_pick_f rfl rfl) ?_
           refine WL_pick_f rfl rfl rfl ?_
           refine WL_nil ?_
           refine WA_done (by kernel_rfl) ?_
           have hq8 := Option.some.inj hr8
           subst hq8
           refine nrm_sub (l' := [(1, u2), (3, u5), (6, (ptr b1 0)), (10, v11), (11, v12), (12, v13), (13, (.int .i64 x5)), (14, (.bool x20)), (15, (.int .i64 x11)), (16, (.int .i64 x21)), (85, (.bool false))]) ⟨rfl, rfl, rfl, rfl, rfl, rfl, rfl, rfl, rfl, rfl, rfl, trivial⟩ ?_
           exact ⟨false, rfl, rfl, (((Keep.of hB13).then hB15).then hB16).below, hC26⟩
          rintro _ w13 ⟨x28, rfl, rfl, hB12, hC23⟩
          try dsimp only at hL3
          obtain ⟨r7, hr12, hL3⟩ := bind_some hL3
          refine W_norm (fun l w => ∃ v30 : Value, ∃ x36 : (List (Int × Int)), ∃ v31 : Value, ∃ x37 : (List Int), ∃ v32 : Value, ∃ x38 : (List Int), ∃ x39 : Bool, (x36, x37, x38, x39) = r7 ∧ l = [(1, u2), (3, u5), (6, (ptr b1 0)), (10, v30), (11, v31), (12, v32), (13, (.int .i64 x5)), (14, (.bool x39)), (15, (.int .i64 x11)), (16, (.int .i64 x21))] ∧ Ctx [] w0 w [Item.own v32 (x38 : (List Int)), Item.own v31 (x37 : (List Int)), Item.own v30 (x36 : (List (Int × Int))), Item.box b1 [u3, u4]]) ?_ ?_
          ·refine W_cond rfl (fun hc9 => ?_) (fun hc9 => ?_)
           ·replace hr12 := ite_t hr12 hc9
            refine W_seq_reg ?_
            refine WL_move rfl rfl ?_
            refine WL_move rfl rfl ?_
            refine WL_move rfl rfl ?_
            refine WL_build (vs := [(0, (.int .i64 x11)), (1, (.int .i64 x21))]) rfl rfl rfl (built75_0_1 rfl rfl) ?_
            refine WL_buildSlice (vs := [(.agg #[(.int .i64 x11), (.int .i64 x21)])]) hC23 Tryz.underlying39 ty75 rfl rfl rfl rfl (by intro v hv; simp only [List.mem_cons, List.not_mem_nil, or_false] at hv; rcases hv with rfl <;> rfl) rfl rfl (fun b9 w23 hC36 hB22 => ?_)
            have hC37 := hC36.row0 (α := (Int × Int))
            have hC38 := own_st75 x11 x21 hC37
            have hC39 := hC38.row1
            have hC40 := hC39.front 1 rfl
            dsimp only [List.eraseIdx, List.cons_append, List.nil_append, List.append_nil] at hC40
            have hC41 : Ctx [] w0 w23 (Item.own (.slice (some ⟨b9, 0, none⟩) 1 1) ([(x11, x21)] : List (Int × Int)) :: [Item.own v13 (x19 : (List Int)), Item.own v12 (x18 : (List Int)), Item.own v11 (x17 : (List (Int × Int))), Item.box b1 [u3, u4]]) := hC40.rowOwn (by simp [maxLen])
            obtain ⟨x40, hx5, hr12⟩ := bind_some hr12
            refine WL_append_flat (α := (Int × Int)) hC41 3 rfl (hC41.ro 0 rfl) (Keep.refl _ _) Tryz.underlying39 ty75 rfl hx5 rfl rfl rfl (fun v33 w24 hC42 => ?_)
            try dsimp only [List.set] at hC42
            refine WL_assign rfl rfl ?_
            refine WL_nil (W_seq_reg ?_)
            refine WL_move rfl rfl ?_
            refine WL_move rfl rfl ?_
            refine WL_buildSlice (vs := [(.int .i64 x11)]) hC42 Tryz.underlying22 ty3 rfl rfl rfl rfl (by intro v hv; simp only [List.mem_cons, List.not_mem_nil, or_false] at hv; rcases hv with rfl <;> rfl) rfl rfl (fun b10 w25 hC43 hB23 => ?_)
            have hC44 := hC43.row0 (α := Int)
            have hC45 := hC44.triv (int_val (x11))
            have hC46 := hC45.row1
            have hC47 := hC46.front 1 rfl
            dsimp only [List.eraseIdx, List.cons_append, List.nil_append, List.append_nil] at hC47
            have hC48 : Ctx [] w0 w25 (Item.own (.slice (some ⟨b10, 0, none⟩) 1 1) ([x11] : List Int) :: [Item.own (.slice (some ⟨b9, 0, none⟩) 1 1) ([(x11, x21)] : (List (Int × Int))), Item.own v13 (x19 : (List Int)), Item.own v12 (x18 : (List Int)), Item.own v33 (x40 : (List (Int × Int))), Item.box b1 [u3, u4]]) := hC47.rowOwn (by simp [maxLen])
            obtain ⟨x41, hx6, hr12⟩ := bind_some hr12
            refine WL_append_flat (α := Int) hC48 2 rfl (hC48.ro 0 rfl) (Keep.refl _ _) Tryz.underlying22 ty3 rfl hx6 rfl rfl rfl (fun v34 w26 hC49 => ?_)
            try dsimp only [List.set] at hC49
            refine WL_assign rfl rfl ?_
            refine WL_nil (W_seq_reg ?_)
            refine WL_move rfl rfl ?_
            refine WL_field Tryz.underlying37 rfl rfl (fun w => ⟨_, Tryz.sizeOf35 w⟩) rfl rfl ?_
            refine WL_load_box hC49 5 rfl rfl Tryz.isAgg35 rfl rfl ?_
            refine WL_move rfl rfl ?_
            obtain ⟨x42, hx7, hr12⟩ := bind_some hr12
            refine WL_index Tryz.underlying35 ty84 g4 hx7 rfl rfl rfl (fun b11 o5 h17 => ?_)
            refine WL_load ty84 h17 hC49.keep rfl rfl (fun v35 h18 => ?_)
            obtain ⟨v36, rfl, h19⟩ := ro_st84 h18
            obtain ⟨x43, hr13, hr12⟩ := bind_some hr12
            refine WL_call Tryz.call57 rfl rfl (c_S_l6Bind x18 v12 ((hC49.ro 3 rfl).now (Keep.refl _ _)) x42 v36 (h19.now hC49.keep) x43 hr13) ?_
            rintro v37 w27 ⟨hB24, F2, hv6, hn4, hb4⟩
            have hC50 := hC49.push hB24 (A := Item.own v37 x43) hv6 hn4 hb4
            refine WL_assign rfl rfl ?_
            refine WL_nil (W_reg ?_)
            refine WL_assign rfl rfl ?_
            refine WL_nil ?_
            have hq9 := Option.some.inj hr12
            subst hq9
            have hC51 := hC50.f6
            have hC52 := hC51.f6
            have hC53 := hC52.f2
            have hC54 := hC53.f5
            have hC55 := hC54.h4
            refine nrm_sub (l' := [(1, u2), (3, u5), (6, (ptr b1 0)), (10, v33), (11, v37), (12, v34), (13, (.int .i64 x5)), (14, (.bool true)), (15, (.int .i64 x11)), (16, (.int .i64 x21))]) ⟨rfl, rfl, rfl, rfl, rfl, rfl, rfl, rfl, rfl, rfl, trivial⟩ ?_
            exact ⟨v33, x40, v37, x43, v34, x41, true, rfl, rfl, hC55⟩
           replace hr12 := ite_f hr12 hc9
           refine W_skip ?_
           have hq10 := Option.some.inj hr12
           subst hq10
           refine nrm_sub (l' := [(1, u2), (3, u5), (6, (ptr b1 0)), (10, v11), (11, v12), (12, v13), (13, (.int .i64 x5)), (14, (.bool x20)), (15, (.int .i64 x11)), (16, (.int .i64 x21))]) ⟨rfl, rfl, rfl, rfl, rfl, rfl, rfl, rfl, rfl, rfl, trivial⟩ ?_
           exact ⟨v11, x17, v12, x18, v13, x19, x20, rfl, rfl, hC23⟩
          rintro l7 _ w22 hs7 ⟨v30, x36, v31, x37, v32, x38, x39, rfl, rfl, hC35⟩
          try dsimp only at hL3
          refine blk_normal ?_
          refine nrm_sub' hs7 ?_
          clear hs7
          refine W_reg ?_
          refine WL_move rfl rfl ?_
          refine WL_add rfl rfl rfl ?_
          refine WL_assign rfl rfl ?_
          refine WL_nil ?_
          refine nrm_sub (l' := [(1, u2), (3, u5), (6, (ptr b1 0)), (10, v30), (11, v31), (12, v32), (13, (.int .i64 x5)), (14, (.bool x39)), (15, (.int .i64 x11)), (16, (.int .i64 (w64 (x21 + 1))))]) ⟨rfl, rfl, rfl, rfl, rfl, rfl, rfl, rfl, rfl, rfl, trivial⟩ ?_
          exact ⟨k3, Nat.lt_succ_self _, v30, x36, v31, x37, v32, x38, x39, w64 (x21 + 1), rfl, hC35, hL3⟩
         replace hL3 := ite_f hL3 hc7
         refine W_exit (nrm_exit (nrm_exit (blk_exit ?_)))
         have hq11 := Option.some.inj hL3
         subst hq11
         refine nrm_sub (l' := [(1, u2), (3, u5), (6, (ptr b1 0)), (10, v11), (11, v12), (12, v13), (13, (.int .i64 x5)), (14, (.bool x20)), (15, (.int .i64 x11))]) ⟨rfl, rfl, rfl, rfl, rfl, rfl, rfl, rfl, rfl, trivial⟩ ?_
         exact ⟨v11, x17, v12, x18, v13, x19, x20, rfl, rfl, hC21⟩
       rintro l8 _ w28 hs8 ⟨v14, x22, v15, x23, v16, x24, x25, rfl, rfl, hC56⟩
       try dsimp only at hL2
       refine blk_normal ?_
       refine nrm_sub' hs8 ?_
       clear hs8
       refine W_reg ?_
       refine WL_move rfl rfl ?_
       refine WL_add rfl rfl rfl ?_
       refine WL_assign rfl rfl ?_
       refine WL_nil ?_
       refine nrm_sub (l' := [(1, u2), (3, u5), (6, (ptr b1 0)), (10, v14), (11, v15), (12, v16), (13, (.int .i64 x5)), (14, (.bool x25)), (15, (.int .i64 (w64 (x11 + 1))))]) ⟨rfl, rfl, rfl, rfl, rfl, rfl, rfl, rfl, rfl, trivial⟩ ?_
       exact ⟨k2, Nat.lt_succ_self _, v14, x22, v15, x23, v16, x24, x25, w64 (x11 + 1), rfl, hC56, hL2⟩
      replace hL2 := ite_f hL2 hc4
      refine W_exit (nrm_exit (nrm_exit (blk_exit ?_)))
      have hq12 := Option.some.inj hL2
      subst hq12
      refine nrm_sub (l' := [(1, u2), (3, u5), (6, (ptr b1 0)), (10, v5), (11, v6), (12, v7), (13, (.int .i64 x5)), (14, (.bool x10))]) ⟨rfl, rfl, rfl, rfl, rfl, rfl, rfl, rfl, trivial⟩ ?_
      exact ⟨v5, x7, v6, x8, v7, x9, x10, rfl, rfl, hC19⟩
    rintro l9 _ w29 hs9 ⟨v8, x12, v9, x13, v10, x14, x15, rfl, rfl, hC57⟩
    try dsimp only at hL1
    refine nrm_sub' hs9 ?_
    clear hs9
    refine W_seq_reg ?_
    refine WL_move rfl rfl ?_
    refine WL_not rfl rfl ?_
    refine WL_nil ?_
    refine W_cond rfl (fun hc10 => ?_) (fun hc10 => ?_)
    ·replace hL1 := ite_t hL1 hc10
     refine W_seq_reg ?_
     refine WL_buildSlice (vs := []) hC57 Tryz.underlying39 ty75 rfl rfl rfl rfl (by simp) rfl rfl (fun b12 w30 hC58 hB27 => ?_)
     have hC59 := hC58.row0 (α := (Int × Int))
     have hC60 := hC59.front 1 rfl
     dsimp only [List.eraseIdx, List.cons_append, List.nil_append, List.append_nil] at hC60
     have hC61 : Ctx [] w0 w30 (Item.own (.slice (some ⟨b12, 0, none⟩) 0 0) (([] : List (Int × Int)) : List (Int × Int)) :: [Item.own v10 (x14 : (List Int)), Item.own v9 (x13 : (List Int)), Item.own v8 (x12 : (List (Int × Int))), Item.box b1 [u3, u4]]) := hC60.rowOwn (by simp [maxLen])
     refine WL_assign rfl rfl ?_
     refine WL_assign rfl rfl ?_
     refine WL_nil (W_ret (blk_ret (nrm_ret (nrm_ret (blk_ret (nrm_ret (nrm_ret ?_)))))))
     have hq13 := Option.some.inj hL1
     subst hq13
     dsimp only at hF
     have hq14 := Option.some.inj hF
     subst hq14
     refine fn_ret2 rfl rfl rfl ?_
     have hC62 := hC61.triv (bool_val (false))
     have hC63 := hC62.f1
     exact ⟨_, rfl, res2_of hC63⟩
    replace hL1 := ite_f hL1 hc10
    refine W_skip (blk_normal (nrm_normal (W_reg ?_)))
    refine WL_move rfl rfl ?_
    refine WL_add rfl rfl rfl ?_
    refine WL_assign rfl rfl ?_
    refine WL_nil ?_
    refine nrm_sub (l' := [(1, u2), (3, u5), (6, (ptr b1 0)), (10, v8), (11, v9), (12, v10), (13, (.int .i64 (w64 (x5 + 1))))]) ⟨rfl, rfl, rfl, rfl, rfl, rfl, rfl, trivial⟩ ?_
    exact ⟨k1, Nat.lt_succ_self _, v8, x12, v9, x13, v10, x14, w64 (x5 + 1), rfl, hC57, hL1⟩
   replace hL1 := ite_f hL1 hc2
   refine W_exit (nrm_exit (nrm_exit (blk_exit ?_)))
   have hq15 := Option.some.inj hL1
   subst hq15
   have hC64 := hC17.f2
   have hC65 := hC64.h1
   refine nrm_sub (l' := [(10, v1)]) ⟨rfl, trivial⟩ ?_
   exact ⟨v1, x2, rfl, rfl, hC65⟩
 rintro l10 _ w31 hs10 ⟨v4, x6, rfl, rfl, hC66⟩
 try dsimp only at hF
 refine nrm_sub' hs10 ?_
 clear hs10
 refine W_seq_reg ?_
 refine WL_move rfl rfl ?_
 refine WL_assign rfl rfl ?_
 refine WL_assign rfl rfl ?_
 refine WL_nil (W_ret ?_)
 have hq16 := Option.some.inj hF
 subst hq16
 refine fn_ret2 rfl rfl rfl ?_
 have hC67 := hC66.triv (bool_val (true))
 have hC68 := hC67.f1
 exact ⟨_, rfl, res2_of hC68⟩

theorem c_S_ConstantsOf {w0 : World} (a1 : ((List Int) × (List (Int × (List Int))))) (u1 : Value) (g1 : RO [] w0 u1 a1.1) (u2 : Value) (g2 : RO [] w0 u2 a1.2) (rr : (List Int)) (hF : S.ConstantsOf a1 = some rr) :
 Calls Tryz.prog 61 [(.agg #[u1, u2])].toArray w0 fun e w' => ∃ v, e = .returned v ∧ Res w0 rr v w' := by
 refine calls_of_W Tryz.func61 rfl rfl ?_
 have hC0 := Ctx.start w0
 unfold S.ConstantsOf at hF
 refine W_seq_reg ?_
 refine WL_boxK (cs := [u1, u2]) hC0 rfl rfl rfl (fun b1 w1 hC1 hB1 hN1 => ?_)
 refine WL_assign rfl rfl ?_
 refine WL_nil (W_seq_reg ?_)
 refine WL_buildSlice (vs := []) hC1 Tryz.underlying22 ty3 rfl rfl rfl rfl (by simp) rfl rfl (fun b2 w2 hC2 hB2 => ?_)
 have hC3 := hC2.row0 (α := Int)
 have hC4 := hC3.front 1 rfl
 dsimp only [List.eraseIdx, List.cons_append, List.nil_append, List.append_nil] at hC4
 have hC5 : Ctx [] w0 w2 (Item.own (.slice (some ⟨b2, 0, none⟩) 0 0) (([] : List Int) : List Int) :: [Item.box b1 [u1, u2]]) := hC4.rowOwn (by simp [maxLen])
 refine WL_assign rfl rfl ?_
 refine WL_nil (W_seq (W_seq_reg ?_))
 refine WL_assign rfl rfl ?_
 refine WL_nil ?_
 obtain ⟨r1, hr1, hF⟩ := bind_some hF
 refine W_norm (fun l w => ∃ v2 : Value, ∃ x3 : (List Int), x3 = r1 ∧ l = [(3, v2)] ∧ Ctx [] w0 w [Item.own v2 (x3 : (List Int))]) ?_ ?_
 ·refine W_block ?_
  refine W.sub (l' := [(1, (ptr b1 0)), (3, (.slice (some ⟨b2, 0, none⟩) 0 0)), (4, (.int .i64 0))]) ?_ ⟨rfl, rfl, rfl, trivial⟩
  refine W_loop (fun k l w => ∃ v1 : Value, ∃ x1 : (List Int), ∃ x2 : Int, l = [(1, (ptr b1 0)), (3, v1), (4, (.int .i64 x2))] ∧ Ctx [] w0 w [Item.own v1 (x1 : (List Int)), Item.box b1 [u1, u2]] ∧ S.ConstantsOf_l1 a1 k x1 x2 = some r1) FUEL ⟨(.slice (some ⟨b2, 0, none⟩) 0 0), ([] : List Int), 0, rfl, hC5, hr1⟩ ?_
  clear hr1
  rintro k1 _ w3 ⟨v1, x1, x2, rfl, hC6, hL1⟩
  cases k1 with
  | zero => rw [S.ConstantsOf_l1] at hL1; cases hL1
  | succ k1 =>
   rw [S.ConstantsOf_l1] at hL1
   refine W_seq (W_seq_reg ?_)
   refine WL_move rfl rfl ?_
   refine WL_field Tryz.underlying37 rfl rfl (fun w => ⟨_, Tryz.sizeOf35 w⟩) rfl rfl ?_
   refine WL_load_box hC6 1 rfl rfl Tryz.isAgg35 rfl rfl ?_
   refine WL_len Tryz.underlying35 g2 rfl rfl ?_
   refine WL_lss rfl rfl rfl ?_
   refine WL_nil ?_
   refine W_cond rfl (fun hc1 => ?_) (fun hc1 => ?_)
   ·replace hL1 := ite_t hL1 hc1
    refine W_skip (nrm_normal (W_seq (W_block (W_seq_reg ?_))))
    refine WL_assign rfl rfl ?_
    refine WL_nil ?_
    obtain ⟨r2, hr2, hL1⟩ := bind_some hL1
    refine W_norm (fun l w => ∃ v4 : Value, ∃ x6 : (List Int), x6 = r2 ∧ l = [(1, (ptr b1 0)), (3, v4), (4, (.int .i64 x2))] ∧ Ctx [] w0 w [Item.own v4 (x6 : (List Int)), Item.box b1 [u1, u2]]) ?_ ?_
    ·refine W_block ?_
     refine W.sub (l' := [(1, (ptr b1 0)), (3, v1), (4, (.int .i64 x2)), (5, (.int .i64 0))]) ?_ ⟨rfl, rfl, rfl, rfl, trivial⟩
     refine W_loop (fun k l w => ∃ v3 : Value, ∃ x4 : (List Int), ∃ x5 : Int, l = [(1, (ptr b1 0)), (3, v3), (4, (.int .i64 x2)), (5, (.int .i64 x5))] ∧ Ctx [] w0 w [Item.own v3 (x4 : (List Int)), Item.box b1 [u1, u2]] ∧ S.ConstantsOf_l2 a1 x2 k x4 x5 = some r2) FUEL ⟨v1, x1, 0, rfl, hC6, hr2⟩ ?_
     clear hr2
     rintro k2 _ w4 ⟨v3, x4, x5, rfl, hC7, hL2⟩
     cases k2 with
     | zero => rw [S.ConstantsOf_l2] at hL2; cases hL2
     | succ k2 =>
      rw [S.ConstantsOf_l2] at hL2
      refine W_seq (W_seq_reg ?_)
      refine WL_move rfl rfl ?_
      refine WL_field Tryz.underlying37 rfl rfl (fun w => ⟨_, Tryz.sizeOf35 w⟩) rfl rfl ?_
      refine WL_load_box hC7 1 rfl rfl Tryz.isAgg35 rfl rfl ?_
      refine WL_move rfl rfl ?_
      obtain ⟨x7, hx1, hL2⟩ := bind_some hL2
      refine WL_index Tryz.underlying35 ty84 g2 hx1 rfl rfl rfl (fun b3 o1 h1 => ?_)
      refine WL_field Tryz.underlying84 rfl rfl (fun w => ⟨_, Tryz.sizeOf22 w⟩) rfl rfl ?_
      refine WL_load ty22 h1.snd hC7.keep rfl rfl (fun v5 h2 => ?_)
      refine WL_len Tryz.underlying22 h2 rfl rfl ?_
      refine WL_lss rfl rfl rfl ?_
      refine WL_nil ?_
      refine W_cond rfl (fun hc2 => ?_) (fun hc2 => ?_)
      ·replace hL2 := ite_t hL2 hc2
       refine W_skip (nrm_normal (W_seq (W_block (W_seq_reg ?_))))
       refine WL_field Tryz.underlying37 rfl rfl (fun w => ⟨_, Tryz.sizeOf35 w⟩) rfl rfl ?_
       refine WL_load_box hC7 1 rfl rfl Tryz.isAgg35 rfl rfl ?_
       refine WL_move rfl rfl ?_
       obtain ⟨x8, hx2, hL2⟩ := bind_some hL2
       refine WL_index Tryz.underlying35 ty84 g2 hx2 rfl rfl rfl (fun b4 o2 h3 => ?_)
       refine WL_field Tryz.underlying84 rfl rfl (fun w => ⟨_, Tryz.sizeOf22 w⟩) rfl rfl ?_
       refine WL_load ty22 h3.snd hC7.keep rfl rfl (fun v6 h4 => ?_)
       refine WL_move rfl rfl ?_
       obtain ⟨x9, hx3, hL2⟩ := bind_some hL2
       refine WL_index Tryz.underlying22 ty3 h4 hx3 rfl rfl rfl (fun b5 o3 h5 => ?_)
       refine WL_load ty3 h5 hC7.keep rfl rfl (fun v7 h6 => ?_)
       obtain rfl := ro_int h6
       obtain ⟨x10, hr3, hL2⟩ := bind_some hL2
       refine WL_call Tryz.call82 rfl rfl (c_S_l1In x9 0 9 x10 hr3) ?_
       intro _ w5 hv1
       obtain ⟨rfl, hB5⟩ := res_bool hv1
       have hC8 := hC7.grow hB5
       refine WL_nil ?_
       obtain ⟨r3, hr4, hL2⟩ := bind_some hL2
       refine W_norm (fun l w => ∃ v8 : Value, ∃ x11 : (List Int), x11 = r3 ∧ l = [(1, (ptr b1 0)), (3, v8), (4, (.int .i64 x2)), (5, (.int .i64 x5))] ∧ Ctx [] w0 w [Item.own v8 (x11 : (List Int)), Item.box b1 [u1, u2]]) ?_ ?_
       ·refine W_cond rfl (fun hc3 => ?_) (fun hc3 => ?_)
        ·replace hr4 := ite_t hr4 hc3
         refine W_reg ?_
         refine WL_move rfl rfl ?_
         refine WL_field Tryz.underlying37 rfl rfl (fun w => ⟨_, Tryz.sizeOf35 w⟩) rfl rfl ?_
         refine WL_load_box hC8 1 rfl rfl Tryz.isAgg35 rfl rfl ?_
         refine WL_move rfl rfl ?_
         obtain ⟨x12, hx4, hr4⟩ := bind_some hr4
         refine WL_index Tryz.underlying35 ty84 g2 hx4 rfl rfl rfl (fun b6 o4 h7 => ?_)
         refine WL_field Tryz.underlying84 rfl rfl (fun w => ⟨_, Tryz.sizeOf22 w⟩) rfl rfl ?_
         refine WL_load ty22 h7.snd hC8.keep rfl rfl (fun v9 h8 => ?_)
         refine WL_move rfl rfl ?_
         obtain ⟨x13, hx5, hr4⟩ := bind_some hr4
         refine WL_index Tryz.underlying22 ty3 h8 hx5 rfl rfl rfl (fun b7 o5 h9 => ?_)
         refine WL_load ty3 h9 hC8.keep rfl rfl (fun v10 h10 => ?_)
         obtain rfl := ro_int h10
         obtain ⟨x14, hr5, hr4⟩ := bind_some hr4
         obtain ⟨Fs1, hH1, hn1, hF1, hO1, hb1⟩ := Ctx.lend2 (As := [Item.box b1 [u1, u2]]) [Item.own v3 (x4 : (List Int))] hC8
         refine WL_call Tryz.call83 rfl rfl (c_S_l3Put_own x4 v3 x13 hH1 hn1 x14 hr5) ?_
         rintro v11 w7 ⟨_, rfl, hq1⟩
         have hC11 : Ctx [] w0 w7 [Item.own v11 (x14 : (List Int)), Item.box b1 [u1, u2]] := hb1 _ _ hq1
         refine WL_assign rfl rfl ?_
         refine WL_nil ?_
         have hq2 := Option.some.inj hr4
         subst hq2
         refine nrm_sub (l' := [(1, (ptr b1 0)), (3, v11), (4, (.int .i64 x2)), (5, (.int .i64 x5))]) ⟨rfl, rfl, rfl, rfl, trivial⟩ ?_
         exact ⟨v11, x14, rfl, rfl, hC11⟩
        replace hr4 := ite_f hr4 hc3
        refine W_skip ?_
        have hq3 := Option.some.inj hr4
        subst hq3
        refine nrm_sub (l' := [(1, (ptr b1 0)), (3, v3), (4, (.int .i64 x2)), (5, (.int .i64 x5))]) ⟨rfl, rfl, rfl, rfl, trivial⟩ ?_
        exact ⟨v3, x4, rfl, rfl, hC8⟩
       rintro l3 _ w6 hs3 ⟨v8, x11, rfl, rfl, hC9⟩
       try dsimp only at hL2
       refine blk_normal ?_
       refine nrm_sub' hs3 ?_
       clear hs3
       refine W_reg ?_
       refine WL_move rfl rfl ?_
       refine WL_add rfl rfl rfl ?_
       refine WL_assign rfl rfl ?_
       refine WL_nil ?_
       refine nrm_sub (l' := [(1, (ptr b1 0)), (3, v8), (4, (.int .i64 x2)), (5, (.int .i64 (w64 (x5 + 1))))]) ⟨rfl, rfl, rfl, rfl, trivial⟩ ?_
       exact ⟨k2, Nat.lt_succ_self _, v8, x11, w64 (x5 + 1), rfl, hC9, hL2⟩
      replace hL2 := ite_f hL2 hc2
      refine W_exit (nrm_exit (nrm_exit (blk_exit ?_)))
      have hq4 := Option.some.inj hL2
      subst hq4
      refine nrm_sub (l' := [(1, (ptr b1 0)), (3, v3), (4, (.int .i64 x2))]) ⟨rfl, rfl, rfl, trivial⟩ ?_
      exact ⟨v3, x4, rfl, rfl, hC7⟩
    rintro l4 _ w9 hs4 ⟨v4, x6, rfl, rfl, hC12⟩
    try dsimp only at hL1
    refine blk_normal ?_
    refine nrm_sub' hs4 ?_
    clear hs4
    refine W_reg ?_
    refine WL_move rfl rfl ?_
    refine WL_add rfl rfl rfl ?_
    refine WL_assign rfl rfl ?_
    refine WL_nil ?_
    refine nrm_sub (l' := [(1, (ptr b1 0)), (3, v4), (4, (.int .i64 (w64 (x2 + 1))))]) ⟨rfl, rfl, rfl, trivial⟩ ?_
    exact ⟨k1, Nat.lt_succ_self _, v4, x6, w64 (x2 + 1), rfl, hC12, hL1⟩
   replace hL1 := ite_f hL1 hc1
   refine W_exit (nrm_exit (nrm_exit (blk_exit ?_)))
   have hq5 := Option.some.inj hL1
   subst hq5
   have hC13 := hC6.h1
   refine nrm_sub (l' := [(3, v1)]) ⟨rfl, trivial⟩ ?_
   exact ⟨v1, x1, rfl, rfl, hC13⟩
 rintro l5 _ w10 hs5 ⟨v2, x3, rfl, rfl, hC14⟩
 try dsimp only at hF
 refine nrm_sub' hs5 ?_
 clear hs5
 refine W_seq_reg ?_
 refine WL_move rfl rfl ?_
 refine WL_assign rfl rfl ?_
 refine WL_nil (W_ret ?_)
 have hq6 := Option.some.inj hF
 subst hq6
 refine fn_ret1 rfl rfl ?_
 exact ⟨_, rfl, own_res hC14 0 rfl⟩

theorem c_S_l4Less {w0 : World} (a1 : (List Int)) (u1 : Value) (g1 : RO [] w0 u1 a1) (a2 : (List Int)) (u2 : Value) (g2 : RO [] w0 u2 a2) (rr : Bool) (hF : S.l4Less a1 a2 = some rr) :
 Calls Tryz.prog 96 [u1, u2].toArray w0 fun e w' => ∃ v, e = .returned v ∧ Res w0 rr v w' := by
 refine calls_of_W Tryz.func96 rfl rfl ?_
 have hC0 := Ctx.start w0
 unfold S.l4Less at hF
 refine W_seq_reg ?_
 refine WL_assign rfl rfl ?_
 refine WL_nil (W_seq (W_seq_reg ?_))
 refine WL_assign rfl rfl ?_
 refine WL_nil ?_
 obtain ⟨r1, hr1, hF⟩ := bind_some hF
 refine W_norm (fun l w => .inl () = r1 ∧ l = [(0, u1), (1, u2)] ∧ Below w0.heap.size w0 w ∧ Ctx [] w0 w []) ?_ ?_
 ·refine W_block ?_
  refine W.sub (l' := [(0, u1), (1, u2), (5, (.int .i64 0))]) ?_ ⟨rfl, rfl, rfl, trivial⟩
  refine W_loop (fun k l w => ∃ x1 : Int, l = [(0, u1), (1, u2), (5, (.int .i64 x1))] ∧ Below w0.heap.size w0 w ∧ Ctx [] w0 w [] ∧ S.l4Less_l1 a1 a2 k x1 = some r1) FUEL ⟨0, rfl, (Below.refl _ _), hC0, hr1⟩ ?_
  clear hr1
  rintro k1 _ w1 ⟨x1, rfl, hB1, hC1, hL1⟩
  cases k1 with
  | zero => rw [S.l4Less_l1] at hL1; cases hL1
  | succ k1 =>
   rw [S.l4Less_l1] at hL1
   refine W_seq ?_
   obtain ⟨r2, hr2, hL1⟩ := bind_some hL1
   refine W_cut (fun l w => ∃ x2 : Bool, x2 = r2 ∧ l = [(0, u1), (1, u2), (5, (.int .i64 x1)), (15, (.bool x2))] ∧ Below w1.heap.size w1 w ∧ Ctx [] w0 w []) ?_ ?_
   ·refine W_reg ?_
    refine WL_move rfl rfl ?_
    refine WL_move rfl rfl ?_
    refine WL_len Tryz.underlying22 g1 rfl rfl ?_
    refine WL_lss rfl rfl rfl ?_
    refine WL_move rfl rfl ?_
    refine WL_fork (fun hc1 => ?_) (fun hc1 => ?_)
    ·replace hr2 := ite_t hr2 hc1
     refine WL_guard rfl rfl ?_
     refine WL_move rfl rfl ?_
     refine WL_guard rfl rfl ?_
     refine WL_move rfl rfl ?_
     refine WL_guard rfl rfl ?_
     refine WL_len Tryz.underlying22 g2 rfl rfl ?_
     refine WL_guard rfl rfl ?_
     refine WL_lss rfl rfl rfl ?_
     refine WL_pick_t rfl rfl rfl ?_
     refine WL_nil ?_
     have hq1 := Option.some.inj hr2
     subst hq1
     refine nrm_sub (l' := [(0, u1), (1, u2), (5, (.int .i64 x1)), (15, (.bool (decide (x1 < (List.length a2 : Int)))))]) ⟨rfl, rfl, rfl, rfl, trivial⟩ ?_
     exact ⟨(decide (x1 < (List.length a2 : Int))), rfl, rfl, (Below.refl _ _), hC1⟩
    replace hr2 := ite_f hr2 hc1
    refine WL_guard_skip rfl rfl (by simp) rfl ?_
    refine WL_guard_skip rfl rfl (by simp) rfl ?_
    refine WL_guard_skip rfl rfl (by simp) rfl ?_
    refine WL_guard_skip rfl rfl (by simp) rfl ?_
    refine WL_pick_f rfl rfl rfl ?_
    refine WL_nil ?_
    have hq2 := Option.some.inj hr2
    subst hq2
    refine nrm_sub (l' := [(0, u1), (1, u2), (5, (.int .i64 x1)), (15, (.bool false))]) ⟨rfl, rfl, rfl, rfl, trivial⟩ ?_
    exact ⟨false, rfl, rfl, (Below.refl _ _), hC1⟩
   rintro _ w2 ⟨x2, rfl, rfl, hB2, hC2⟩
   try dsimp only at hL1
   refine W_cond rfl (fun hc2 => ?_) (fun hc2 => ?_)
   ·replace hL1 := ite_t hL1 hc2
    refine W_skip (nrm_normal (W_seq (W_block (W_seq ?_))))
    refine W_drawn 9 rfl hmix (fun w3 hB3 => ?_)
    have hC3 := hC2.grow hB3
    refine WA_tk 0 (by kernel_rfl) rfl rfl (fl_move rfl) ?_
    refine WL_move rfl rfl ?_
    refine WL_nil ?_
    refine WA_tk 1 (by kernel_rfl) rfl rfl (fl_move rfl) ?_
    refine WL_move rfl rfl ?_
    refine WL_nil ?_
    obtain ⟨x3, hx1, hL1⟩ := bind_some hL1
    refine WA_tk 2 (by kernel_rfl) rfl rfl (fl_index Tryz.underlying22 ty3 g1 hx1 rfl rfl) ?_
    refine WL_index Tryz.underlying22 ty3 g1 hx1 rfl rfl rfl (fun b1 o1 h1 => ?_)
    refine WL_nil ?_
    refine WA_tk 4 (by kernel_rfl) rfl rfl (fl_move rfl) ?_
    refine WL_move rfl rfl ?_
    refine WL_nil ?_
    refine WA_tk 5 (by kernel_rfl) rfl rfl (fl_move rfl) ?_
    refine WL_move rfl rfl ?_
    refine WL_nil ?_
    obtain ⟨x4, hx2, hL1⟩ := bind_some hL1
    refine WA_tk 6 (by kernel_rfl) rfl rfl (fl_index Tryz.underlying22 ty3 g2 hx2 rfl rfl) ?_
    refine WL_index Tryz.underlying22 ty3 g2 hx2 rfl rfl rfl (fun b2 o2 h2 => ?_)
    refine WL_nil ?_
    refine WA.sub (l' := [(0, u1), (1, u2), (5, (.int .i64 x1)), (15, (.bool x2)), (18, u1), (19, (.int .i64 x1)), (20, (ptr b1 o1)), (22, u2), (23, (.int .i64 x1)), (24, (ptr b2 o2))]) ?_ ⟨rfl, rfl, rfl, rfl, rfl, rfl, rfl, rfl, rfl, rfl, trivial⟩
    refine WA_postsE [⟨3, [], fun vs => PW.val (.int .i64 x3), []⟩, ⟨7, [], fun vs => PW.val (.int .i64 x4), []⟩] [[], []] 1 rfl (by kernel_rfl) (by kernel_rfl) rfl ?_ ?_
    ·refine StepsE_cons rfl ?_ ?_
     ·intro w4 hB4
      refine DepsE_nil ?_
      refine ⟨_, rfl, ?_⟩
      refine WL_load ty3 h1 (hC3.keep.then hB4) rfl rfl (fun v1 h3 => ?_)
      obtain rfl := ro_int h3
      refine WL_nil ?_
      exact FinE_val (Below.refl _ _) rfl rfl ⟨rfl, rfl⟩
     refine StepsE_cons rfl ?_ ?_
     ·intro w4 hB4
      refine DepsE_nil ?_
      refine ⟨_, rfl, ?_⟩
      refine WL_load ty3 h2 (hC3.keep.then hB4) rfl rfl (fun v2 h4 => ?_)
      obtain rfl := ro_int h4
      refine WL_nil ?_
      exact FinE_val (Below.refl _ _) rfl rfl ⟨rfl, rfl⟩
     exact StepsE_nil
    intro w5 hB5
    refine AllE_cons rfl rfl rfl ?_
    rintro _ _ ⟨rfl, rfl⟩
    refine AllE_cons rfl rfl rfl ?_
    rintro _ _ ⟨rfl, rfl⟩
    refine AllE_nil ?_
    intro hn1 hb1
    have hC4 := hC3.grow hB5
    refine WA_tk 8 (by kernel_rfl) rfl rfl (fl_neq rfl rfl) ?_
    refine WL_neq rfl rfl rfl ?_
    refine WL_nil ?_
    refine WA_done (by kernel_rfl) ?_
    refine nrm_normal ?_
    refine W_cond rfl (fun hc3 => ?_) (fun hc3 => ?_)
    ·replace hL1 := ite_t hL1 hc3
     refine W_seq ?_
     refine W_drawn 10 rfl hmix (fun w6 hB6 => ?_)
     have hC5 := hC4.grow hB6
     refine WA_tk 0 (by kernel_rfl) rfl rfl (fl_move rfl) ?_
     refine WL_move rfl rfl ?_
     refine WL_nil ?_
     refine WA_tk 1 (by kernel_rfl) rfl rfl (fl_move rfl) ?_
     refine WL_move rfl rfl ?_
     refine WL_nil ?_
     obtain ⟨x5, hx3, hL1⟩ := bind_some hL1
     refine WA_tk 2 (by kernel_rfl) rfl rfl (fl_index Tryz.underlying22 ty3 g1 hx3 rfl rfl) ?_
     refine WL_index Tryz.underlying22 ty3 g1 hx3 rfl rfl rfl (fun b3 o3 h5 => ?_)
     refine WL_nil ?_
     refine WA_tk 4 (by kernel_rfl) rfl rfl (fl_move rfl) ?_
     refine WL_move rfl rfl ?_
     refine WL_nil ?_
     refine WA_tk 5 (by kernel_rfl) rfl rfl (fl_move rfl) ?_
     refine WL_move rfl rfl ?_
     refine WL_nil ?_
     obtain ⟨x6, hx4, hL1⟩ := bind_some hL1
     refine WA_tk 6 (by kernel_rfl) rfl rfl (fl_index Tryz.underlying22 ty3 g2 hx4 rfl rfl) ?_
     refine WL_index Tryz.underlying22 ty3 g2 hx4 rfl rfl rfl (fun b4 o4 h6 => ?_)
     refine WL_nil ?_
     refine WA.sub (l' := [(0, u1), (1, u2), (5, (.int .i64 x1)), (15, (.bool x2)), (18, u1), (19, (.int .i64 x1)), (20, (ptr b1 o1)), (21, (.int .i64 x3)), (22, u2), (23, (.int .i64 x1)), (24, (ptr b2 o2)), (25, (.int .i64 x4)), (26, (.bool (!decide (x3 = x4)))), (27, u1), (28, (.int .i64 x1)), (29, (ptr b3 o3)), (31, u2), (32, (.int .i64 x1)), (33, (ptr b4 o4))]) ?_ ⟨rfl, rfl, rfl, rfl, rfl, rfl, rfl, rfl, rfl, rfl, rfl, rfl, rfl, rfl, rfl, rfl, rfl, rfl, rfl, trivial⟩
     refine WA_postsE [⟨3, [], fun vs => PW.val (.int .i64 x5), []⟩, ⟨7, [], fun vs => PW.val (.int .i64 x6), []⟩] [[], []] 2 rfl (by kernel_rfl) (by kernel_rfl) rfl ?_ ?_
     ·refine StepsE_cons rfl ?_ ?_
      ·intro w7 hB7
       refine DepsE_nil ?_
       refine ⟨_, rfl, ?_⟩
       refine WL_load ty3 h5 (hC5.keep.then hB7) rfl rfl (fun v3 h7 => ?_)
       obtain rfl := ro_int h7
       refine WL_nil ?_
       exact FinE_val (Below.refl _ _) rfl rfl ⟨rfl, rfl⟩
      refine StepsE_cons rfl ?_ ?_
      ·intro w7 hB7
       refine DepsE_nil ?_
       refine ⟨_, rfl, ?_⟩
       refine WL_load ty3 h6 (hC5.keep.then hB7) rfl rfl (fun v4 h8 => ?_)
       obtain rfl := ro_int h8
       refine WL_nil ?_
       exact FinE_val (Below.refl _ _) rfl rfl ⟨rfl, rfl⟩
      exact StepsE_nil
     intro w9 hB8
     refine AllE_cons rfl rfl rfl ?_
     rintro _ _ ⟨rfl, rfl⟩
     refine AllE_cons rfl rfl rfl ?_
     rintro _ _ ⟨rfl, rfl⟩
     refine AllE_nil ?_
     intro hn2 hb2
     have hC6 := hC5.grow hB8
     refine WA_tk 8 (by kernel_rfl) rfl rfl (fl_lss rfl rfl) ?_
     refine WL_lss rfl rfl rfl ?_
     refine WL_nil ?_
     refine WA_tk 9 (by kernel_rfl) rfl rfl (fl_assign rfl) ?_
     refine WL_assign rfl rfl ?_
     refine WL_nil ?_
     refine WA_done (by kernel_rfl) ?_
     refine nrm_normal (W_ret (blk_ret (nrm_ret (nrm_ret (blk_ret (nrm_ret (nrm_ret ?_)))))))
     have hq3 := Option.some.inj hL1
     subst hq3
     dsimp only at hF
     have hq4 := Option.some.inj hF
     subst hq4
     refine fn_ret1 rfl rfl ?_
     exact ⟨_, rfl, bool_res hC6 _⟩
    replace hL1 := ite_f hL1 hc3
    refine W_skip (blk_normal (nrm_normal (W_reg ?_)))
    refine WL_move rfl rfl ?_
    refine WL_add rfl rfl rfl ?_
    refine WL_assign rfl rfl ?_
    refine WL_nil ?_
    refine nrm_sub (l' := [(0, u1), (1, u2), (5, (.int .i64 (w64 (x1 + 1))))]) ⟨rfl, rfl, rfl, trivial⟩ ?_
    exact ⟨k1, Nat.lt_succ_self _, w64 (x1 + 1), rfl, ((((Keep.of hB1).then hB2).then hB3).then hB5).below, hC4, hL1⟩
   replace hL1 := ite_f hL1 hc2
   refine W_exit (nrm_exit (nrm_exit (blk_exit ?_)))
   have hq5 := Option.some.inj hL1
   subst hq5
   refine nrm_sub (l' := [(0, u1), (1, u2)]) ⟨rfl, rfl, trivial⟩ ?_
   exact ⟨rfl, rfl, ((Keep.of hB1).then hB2).below, hC2⟩
 rintro l3 _ w10 hs3 ⟨rfl, rfl, hB9, hC7⟩
 try dsimp only at hF
 refine nrm_sub' hs3 ?_
 clear hs3
 refine W_seq_reg ?_
 refine WL_move rfl rfl ?_
 refine WL_len Tryz.underlying22 g1 rfl rfl ?_
 refine WL_move rfl rfl ?_
 refine WL_len Tryz.underlying22 g2 rfl rfl ?_
 refine WL_lss rfl rfl rfl ?_
 refine WL_assign rfl rfl ?_
 refine WL_nil (W_ret ?_)
 have hq6 := Option.some.inj hF
 subst hq6
 refine fn_ret1 rfl rfl ?_
 exact ⟨_, rfl, bool_res hC7 _⟩

theorem c_S_l15Less {w0 : World} (a1 : (List Int)) (u1 : Value) (g1 : RO [] w0 u1 a1) (a2 : (List Int)) (u2 : Value) (g2 : RO [] w0 u2 a2) (rr : Bool) (hF : S.l15Less a1 a2 = some rr) :
 Calls Tryz.prog 62 [u1, u2].toArray w0 fun e w' => ∃ v, e = .returned v ∧ Res w0 rr v w' := by
 refine calls_of_W Tryz.func62 rfl rfl ?_
 have hC0 := Ctx.start w0
 unfold S.l15Less at hF
 refine W_seq_reg ?_
 refine WL_assign rfl rfl ?_
 refine WL_nil (W_seq (W_seq_reg ?_))
 refine WL_move rfl rfl ?_
 refine WL_len Tryz.underlying22 g1 rfl rfl ?_
 refine WL_move rfl rfl ?_
 refine WL_len Tryz.underlying22 g2 rfl rfl ?_
 refine WL_neq rfl rfl rfl ?_
 refine WL_nil ?_
 refine W_cond rfl (fun hc1 => ?_) (fun hc1 => ?_)
 ·replace hF := ite_t hF hc1
  refine W_seq_reg ?_
  refine WL_move rfl rfl ?_
  refine WL_len Tryz.underlying22 g1 rfl rfl ?_
  refine WL_move rfl rfl ?_
  refine WL_len Tryz.underlying22 g2 rfl rfl ?_
  refine WL_lss rfl rfl rfl ?_
  refine WL_assign rfl rfl ?_
  refine WL_nil (W_ret (nrm_ret ?_))
  have hq1 := Option.some.inj hF
  subst hq1
  refine fn_ret1 rfl rfl ?_
  exact ⟨_, rfl, bool_res hC0 _⟩
 replace hF := ite_f hF hc1
 refine W_skip (nrm_normal (W_seq_reg ?_))
 refine WL_move rfl rfl ?_
 refine WL_move rfl rfl ?_
 obtain ⟨x1, hr1, hF⟩ := bind_some hF
 refine WL_call Tryz.call96 rfl rfl (c_S_l4Less a1 u1 (g1.now hC0.keep) a2 u2 (g2.now hC0.keep) x1 hr1) ?_
 intro _ w1 hv1
 obtain ⟨rfl, hB1⟩ := res_bool hv1
 have hC1 := hC0.grow hB1
 refine WL_assign rfl rfl ?_
 refine WL_nil (W_ret ?_)
 have hq2 := Option.some.inj hF
 subst hq2
 refine fn_ret1 rfl rfl ?_
 exact ⟨_, rfl, bool_res hC1 _⟩

theorem c_S_LeastDisclosure {w0 : World} (a1 : (List Int)) (u1 : Value) (g1 : RO [] w0 u1 a1) (a2 : (List (Int × (List Int) × Int × Int × Int))) (u2 : Value) (g2 : RO [] w0 u2 a2) (a3 : ((List Int) × (List (Int × (List Int))))) (u3 : Value) (g3 : RO [] w0 u3 a3.1) (u4 : Value) (g4 : RO [] w0 u4 a3.2) (a4 : (List Int)) (u5 : Value) (g5 : RO [] w0 u5 a4) (rr : ((List Int) × Bool)) (hF : S.LeastDisclosure a1 a2 a3 a4 = some rr) :
 Calls Tryz.prog 27 [u1, u2, (.agg #[u3, u4]), u5].toArray w0 fun e w' => ∃ v, e = .returned v ∧ Res2 w0 rr.1 rr.2 v w' := by
 refine calls_of_W Tryz.func27 rfl rfl ?_
 have hC0 := Ctx.start w0
 unfold S.LeastDisclosure at hF
 refine W_seq_reg ?_
 refine WL_boxK (cs := [u3, u4]) hC0 rfl rfl rfl (fun b1 w1 hC1 hB1 hN1 => ?_)
 refine WL_assign rfl rfl ?_
 refine WL_assign rfl rfl ?_
 refine WL_nil (W_seq_reg ?_)
 refine WL_buildSlice (vs := []) hC1 Tryz.underlying22 ty3 rfl rfl rfl rfl (by simp) rfl rfl (fun b2 w2 hC2 hB2 => ?_)
 have hC3 := hC2.row0 (α := Int)
 have hC4 := hC3.front 1 rfl
 dsimp only [List.eraseIdx, List.cons_append, List.nil_append, List.append_nil] at hC4
 have hC5 : Ctx [] w0 w2 (Item.own (.slice (some ⟨b2, 0, none⟩) 0 0) (([] : List Int) : List Int) :: [Item.box b1 [u3, u4]]) := hC4.rowOwn (by simp [maxLen])
 refine WL_assign rfl rfl ?_
 refine WL_nil (W_seq_reg ?_)
 refine WL_assign rfl rfl ?_
 refine WL_nil (W_seq_reg ?_)
 refine WL_load_box_agg [u3, u4] hC5 1 rfl rfl rfl Tryz.isAgg37 Tryz.sizeOf37 rfl rfl ?_
 obtain ⟨x1, hr1, hF⟩ := bind_some hF
 refine WL_call Tryz.call61 rfl rfl (c_S_ConstantsOf (a3.1, a3.2) u3 (g3.now hC5.keep) u4 (g4.now hC5.keep) x1 hr1) ?_
 rintro v1 w3 ⟨hB3, F1, hv1, hn1, hb1⟩
 have hC6 := hC5.push hB3 (A := Item.own v1 x1) hv1 hn1 hb1
 refine WL_assign rfl rfl ?_
 refine WL_nil (W_seq ?_)
 obtain ⟨r1, hr2, hF⟩ := bind_some hF
 refine W_cut (fun l w => ∃ x2 : Bool, x2 = r1 ∧ l = [(0, u1), (1, u2), (3, u5), (6, (ptr b1 0)), (10, (.slice (some ⟨b2, 0, none⟩) 0 0)), (11, (.bool false)), (12, v1), (31, (.bool x2))] ∧ Below w3.heap.size w3 w ∧ Ctx [] w0 w [Item.own v1 (x1 : (List Int)), Item.own (.slice (some ⟨b2, 0, none⟩) 0 0) (([] : List Int) : (List Int)), Item.box b1 [u3, u4]]) ?_ ?_
 ·refine W_reg ?_
  refine WL_move rfl rfl ?_
  refine WL_move rfl rfl ?_
  refine WL_load_box_agg [u3, u4] hC6 2 rfl rfl rfl Tryz.isAgg37 Tryz.sizeOf37 rfl rfl ?_
  obtain ⟨x3, hr3, hr2⟩ := bind_some hr2
  refine WL_call Tryz.call53 rfl rfl (c_S_l6Fine a1 u1 (g1.now hC6.keep) a2 u2 (g2.now hC6.keep) (a3.1, a3.2) u3 (g3.now hC6.keep) u4 (g4.now hC6.keep) x3 hr3) ?_
  intro _ w5 hv2
  obtain ⟨rfl, hB5⟩ := res_bool hv2
  have hC8 := hC6.grow hB5
  refine WL_not rfl rfl ?_
  refine WL_move rfl rfl ?_
  refine WL_fork (fun hc1 => ?_) (fun hc1 => ?_)
  ·replace hr2 := ite_t hr2 hc1
   refine WL_guard_skip rfl rfl (by simp) rfl ?_
   refine WL_guard_skip rfl rfl (by simp) rfl ?_
   refine WL_guard_skip rfl rfl (by simp) rfl ?_
   refine WL_pick_t rfl rfl rfl ?_
   refine WL_nil ?_
   have hq1 := Option.some.inj hr2
   subst hq1
   refine nrm_sub (l' := [(0, u1), (1, u2), (3, u5), (6, (ptr b1 0)), (10, (.slice (some ⟨b2, 0, none⟩) 0 0)), (11, (.bool false)), (12, v1), (31, (.bool true))]) ⟨rfl, rfl, rfl, rfl, rfl, rfl, rfl, rfl, trivial⟩ ?_
   exact ⟨true, rfl, rfl, (Keep.of hB5).below, hC8⟩
  replace hr2 := ite_f hr2 hc1
  refine WL_guard rfl rfl ?_
  refine WL_move rfl rfl ?_
  refine WL_guard rfl rfl ?_
  refine WL_len Tryz.underlying22 (hC8.ro 0 rfl) rfl rfl ?_
  refine WL_guard rfl rfl ?_
  refine WL_gtr rfl rfl rfl ?_
  refine WL_pick_f rfl rfl rfl ?_
  refine WL_nil ?_
  have hq2 := Option.some.inj hr2
  subst hq2
  refine nrm_sub (l' := [(0, u1), (1, u2), (3, u5), (6, (ptr b1 0)), (10, (.slice (some ⟨b2, 0, none⟩) 0 0)), (11, (.bool false)), (12, v1), (31, (.bool (decide (8 < (List.length x1 : Int)))))]) ⟨rfl, rfl, rfl, rfl, rfl, rfl, rfl, rfl, trivial⟩ ?_
  exact ⟨(decide (8 < (List.length x1 : Int))), rfl, rfl, (Keep.of hB5).below, hC8⟩
 rintro _ w4 ⟨x2, rfl, rfl, hB4, hC7⟩
 try dsimp only at hF
 refine W_cond rfl (fun hc2 => ?_) (fun hc2 => ?_)
 ·replace hF := ite_t hF hc2
  refine W_seq_reg ?_
  refine WL_move rfl rfl ?_
  refine WL_assign rfl rfl ?_
  refine WL_assign rfl rfl ?_
  refine WL_nil (W_ret (nrm_ret ?_))
  have hq3 := Option.some.inj hF
  subst hq3
  refine fn_ret2 rfl rfl rfl ?_
  have hC9 := hC7.triv (bool_val (false))
  have hC10 := hC9.f2
  exact ⟨_, rfl, res2_of hC10⟩
 replace hF := ite_f hF hc2
 refine W_skip (nrm_normal (W_seq (W_seq_reg ?_)))
 refine WL_assign rfl rfl ?_
 refine WL_nil ?_
 obtain ⟨r2, hr4, hF⟩ := bind_some hF
 refine W_norm (fun l w => ∃ v3 : Value, ∃ x7 : (List Int), ∃ x8 : Bool, (x7, x8) = r2 ∧ l = [(10, v3), (11, (.bool x8))] ∧ Ctx [] w0 w [Item.own v3 (x7 : (List Int))]) ?_ ?_
 ·refine W_block ?_
  refine W.sub (l' := [(0, u1), (1, u2), (3, u5), (6, (ptr b1 0)), (10, (.slice (some ⟨b2, 0, none⟩) 0 0)), (11, (.bool false)), (12, v1), (13, (.int .i64 0))]) ?_ ⟨rfl, rfl, rfl, rfl, rfl, rfl, rfl, rfl, trivial⟩
  refine W_loop (fun k l w => ∃ v2 : Value, ∃ x4 : (List Int), ∃ x5 : Bool, ∃ x6 : Int, l = [(0, u1), (1, u2), (3, u5), (6, (ptr b1 0)), (10, v2), (11, (.bool x5)), (12, v1), (13, (.int .i64 x6))] ∧ Ctx [] w0 w [Item.own v1 (x1 : (List Int)), Item.own v2 (x4 : (List Int)), Item.box b1 [u3, u4]] ∧ S.LeastDisclosure_l1 x1 a4 a1 a2 a3 k x4 x5 x6 = some r2) FUEL ⟨(.slice (some ⟨b2, 0, none⟩) 0 0), ([] : List Int), false, 0, rfl, hC7, hr4⟩ ?_
  clear hr4
  rintro k1 _ w6 ⟨v2, x4, x5, x6, rfl, hC11, hL1⟩
  cases k1 with
  | zero => rw [S.LeastDisclosure_l1] at hL1; cases hL1
  | succ k1 =>
   rw [S.LeastDisclosure_l1] at hL1
   refine W_seq (W_seq_reg ?_)
   refine WL_move rfl rfl ?_
   refine WL_move rfl rfl ?_
   refine WL_len Tryz.underlying22 (hC11.ro 0 rfl) rfl rfl ?_
   obtain ⟨_, hx1, hL1⟩ := bind_some hL1
   refine WL_shl (nn_some hx1) rfl rfl rfl ?_
   refine WL_lss rfl rfl rfl ?_
   refine WL_nil ?_
   refine W_cond rfl (fun hc3 => ?_) (fun hc3 => ?_)
   ·replace hL1 := ite_t hL1 hc3
    refine W_skip (nrm_normal (W_seq (W_block (W_seq_reg ?_))))
    refine WL_buildSlice (vs := []) hC11 Tryz.underlying22 ty3 rfl rfl rfl rfl (by simp) rfl rfl (fun b3 w7 hC12 hB7 => ?_)
    have hC13 := hC12.row0 (α := Int)
    have hC14 := hC13.front 1 rfl
    dsimp only [List.eraseIdx, List.cons_append, List.nil_append, List.append_nil] at hC14
    have hC15 : Ctx [] w0 w7 (Item.own (.slice (some ⟨b3, 0, none⟩) 0 0) (([] : List Int) : List Int) :: [Item.own v1 (x1 : (List Int)), Item.own v2 (x4 : (List Int)), Item.box b1 [u3, u4]]) := hC14.rowOwn (by simp [maxLen])
    refine WL_assign rfl rfl ?_
    refine WL_nil (W_seq_reg ?_)
    refine WL_buildSlice (vs := []) hC15 Tryz.underlying22 ty3 rfl rfl rfl rfl (by simp) rfl rfl (fun b4 w9 hC16 hB8 => ?_)
    have hC17 := hC16.row0 (α := Int)
    have hC18 := hC17.front 1 rfl
    dsimp only [List.eraseIdx, List.cons_append, List.nil_append, List.append_nil] at hC18
    have hC19 : Ctx [] w0 w9 (Item.own (.slice (some ⟨b4, 0, none⟩) 0 0) (([] : List Int) : List Int) :: [Item.own (.slice (some ⟨b3, 0, none⟩) 0 0) (([] : List Int) : (List Int)), Item.own v1 (x1 : (List Int)), Item.own v2 (x4 : (List Int)), Item.box b1 [u3, u4]]) := hC18.rowOwn (by simp [maxLen])
    refine WL_assign rfl rfl ?_
    refine WL_nil (W_seq (W_seq_reg ?_))
    refine WL_assign rfl rfl ?_
    refine WL_nil ?_
    obtain ⟨r3, hr5, hL1⟩ := bind_some hL1
    refine W_norm (fun l w => ∃ v6 : Value, ∃ x12 : (List Int), ∃ v7 : Value, ∃ x13 : (List Int), (x12, x13) = r3 ∧ l = [(0, u1), (1, u2), (3, u5), (6, (ptr b1 0)), (10, v2), (11, (.bool x5)), (12, v1), (13, (.int .i64 x6)), (14, v6), (15, v7)] ∧ Ctx [] w0 w [Item.own v7 (x13 : (List Int)), Item.own v6 (x12 : (List Int)), Item.own v1 (x1 : (List Int)), Item.own v2 (x4 : (List Int)), Item.box b1 [u3, u4]]) ?_ ?_
    ·refine W_block ?_
     refine W.sub (l' := [(0, u1), (1, u2), (3, u5), (6, (ptr b1 0)), (10, v2), (11, (.bool x5)), (12, v1), (13, (.int .i64 x6)), (14, (.slice (some ⟨b3, 0, none⟩) 0 0)), (15, (.slice (some ⟨b4, 0, none⟩) 0 0)), (16, (.int .i64 0))]) ?_ ⟨rfl, rfl, rfl, rfl, rfl, rfl, rfl, rfl, rfl, rfl, rfl, trivial⟩
     refine W_loop (fun k l w => ∃ v4 : Value, ∃ x9 : (List Int), ∃ v5 : Value, ∃ x10 : (List Int), ∃ x11 : Int, l = [(0, u1), (1, u2), (3, u5), (6, (ptr b1 0)), (10, v2), (11, (.bool x5)), (12, v1), (13, (.int .i64 x6)), (14, v4), (15, v5), (16, (.int .i64 x11))] ∧ Ctx [] w0 w [Item.own v5 (x10 : (List Int)), Item.own v4 (x9 : (List Int)), Item.own v1 (x1 : (List Int)), Item.own v2 (x4 : (List Int)), Item.box b1 [u3, u4]] ∧ S.LeastDisclosure_l2 x1 a4 x6 k x9 x10 x11 = some r3) FUEL ⟨(.slice (some ⟨b3, 0, none⟩) 0 0), ([] : List Int), (.slice (some ⟨b4, 0, none⟩) 0 0), ([] : List Int), 0, rfl, hC19, hr5⟩ ?_
     clear hr5
     rintro k2 _ w10 ⟨v4, x9, v5, x10, x11, rfl, hC20, hL2⟩
     cases k2 with
     | zero => rw [S.LeastDisclosure_l2] at hL2; cases hL2
     | succ k2 =>
      rw [S.LeastDisclosure_l2] at hL2
      refine W_seq (W_seq_reg ?_)
      refine WL_move rfl rfl ?_
      refine WL_move rfl rfl ?_
      refine WL_len Tryz.underlying22 (hC20.ro 2 rfl) rfl rfl ?_
      refine WL_lss rfl rfl rfl ?_
      refine WL_nil ?_
      refine W_cond rfl (fun hc4 => ?_) (fun hc4 => ?_)
      ·replace hL2 := ite_t hL2 hc4
       refine W_skip (nrm_normal (W_seq (W_block (W_seq (W_seq_reg ?_)))))
       refine WL_move rfl rfl ?_
       refine WL_move rfl rfl ?_
       refine WL_move rfl rfl ?_
       obtain ⟨x14, hx2, hL2⟩ := bind_some hL2
       refine WL_index Tryz.underlying22 ty3 (hC20.ro 2 rfl) hx2 rfl rfl rfl (fun b5 o1 h1 => ?_)
       refine WL_load ty3 h1 (Keep.refl _ _) rfl rfl (fun v8 h2 => ?_)
       obtain rfl := ro_int h2
       obtain ⟨x15, hr6, hL2⟩ := bind_some hL2
       refine WL_call Tryz.call54 rfl rfl (c_S_l2Has a4 u5 (g5.now hC20.keep) x14 x15 hr6) ?_
       intro _ w11 hv3
       obtain ⟨rfl, hB10⟩ := res_bool hv3
       have hC21 := hC20.grow hB10
       refine WL_not rfl rfl ?_
       refine WL_nil ?_
       refine W_cond rfl (fun hc5 => ?_) (fun hc5 => ?_)
       ·replace hL2 := ite_t hL2 hc5
        refine W_exit (nrm_exit (blk_exit (nrm_normal (W_reg ?_))))
        refine WL_move rfl rfl ?_
        refine WL_add rfl rfl rfl ?_
        refine WL_assign rfl rfl ?_
        refine WL_nil ?_
        refine nrm_sub (l' := [(0, u1), (1, u2), (3, u5), (6, (ptr b1 0)), (10, v2), (11, (.bool x5)), (12, v1), (13, (.int .i64 x6)), (14, v4), (15, v5), (16, (.int .i64 (w64 (x11 + 1))))]) ⟨rfl, rfl, rfl, rfl, rfl, rfl, rfl, rfl, rfl, rfl, rfl, trivial⟩ ?_
        exact ⟨k2, Nat.lt_succ_self _, v4, x9, v5, x10, w64 (x11 + 1), rfl, hC21, hL2⟩
       replace hL2 := ite_f hL2 hc5
       refine W_skip (nrm_normal (W_seq_reg ?_))
       refine WL_move rfl rfl ?_
       refine WL_move rfl rfl ?_
       obtain ⟨_, hx3, hL2⟩ := bind_some hL2
       refine WL_shr (nn_some hx3) rfl rfl rfl ?_
       refine WL_band rfl rfl rfl ?_
       refine WL_eql rfl rfl rfl ?_
       refine WL_nil ?_
       obtain ⟨r4, hr7, hL2⟩ := bind_some hL2
       refine W_norm (fun l w => ∃ v9 : Value, ∃ x16 : (List Int), ∃ v10 : Value, ∃ x17 : (List Int), (x16, x17) = r4 ∧ l = [(0, u1), (1, u2), (3, u5), (6, (ptr b1 0)), (10, v2), (11, (.bool x5)), (12, v1), (13, (.int .i64 x6)), (14, v9), (15, v10), (16, (.int .i64 x11))] ∧ Ctx [] w0 w [Item.own v10 (x17 : (List Int)), Item.own v9 (x16 : (List Int)), Item.own v1 (x1 : (List Int)), Item.own v2 (x4 : (List Int)), Item.box b1 [u3, u4]]) ?_ ?_
       ·refine W_cond rfl (fun hc6 => ?_) (fun hc6 => ?_)
        ·replace hr7 := ite_t hr7 hc6
         refine W_reg ?_
         refine WL_move rfl rfl ?_
         refine WL_move rfl rfl ?_
         refine WL_move rfl rfl ?_
         obtain ⟨x18, hx4, hr7⟩ := bind_some hr7
         refine WL_index Tryz.underlying22 ty3 (hC21.ro 2 rfl) hx4 rfl rfl rfl (fun b6 o2 h3 => ?_)
         refine WL_load ty3 h3 (Keep.refl _ _) rfl rfl (fun v11 h4 => ?_)
         obtain rfl := ro_int h4
         refine WL_buildSlice (vs := [(.int .i64 x18)]) hC21 Tryz.underlying22 ty3 rfl rfl rfl rfl (by intro v hv; simp only [List.mem_cons, List.not_mem_nil, or_false] at hv; rcases hv with rfl <;> rfl) rfl rfl (fun b7 w13 hC23 hB12 => ?_)
         have hC24 := hC23.row0 (α := Int)
         have hC25 := hC24.triv (int_val (x18))
         have hC26 := hC25.row1
         have hC27 := hC26.front 1 rfl
         dsimp only [List.eraseIdx, List.cons_append, List.nil_append, List.append_nil] at hC27
         have hC28 : Ctx [] w0 w13 (Item.own (.slice (some ⟨b7, 0, none⟩) 1 1) ([x18] : List Int) :: [Item.own v5 (x10 : (List Int)), Item.own v4 (x9 : (List Int)), Item.own v1 (x1 : (List Int)), Item.own v2 (x4 : (List Int)), Item.box b1 [u3, u4]]) := hC27.rowOwn (by simp [maxLen])
         obtain ⟨x19, hx5, hr7⟩ := bind_some hr7
         refine WL_append_flat (α := Int) hC28 2 rfl (hC28.ro 0 rfl) (Keep.refl _ _) Tryz.underlying22 ty3 rfl hx5 rfl rfl rfl (fun v12 w14 hC29 => ?_)
         try dsimp only [List.set] at hC29
         refine WL_assign rfl rfl ?_
         refine WL_nil ?_
         have hq4 := Option.some.inj hr7
         subst hq4
         have hC30 := hC29.f5
         have hC31 := hC30.f5
         have hC32 := hC31.f5
         have hC33 := hC32.f5
         have hC34 := hC33.f5
         have hC35 := hC34.h5
         refine nrm_sub (l' := [(0, u1), (1, u2), (3, u5), (6, (ptr b1 0)), (10, v2), (11, (.bool x5)), (12, v1), (13, (.int .i64 x6)), (14, v12), (15, v5), (16, (.int .i64 x11))]) ⟨rfl, rfl, rfl, rfl, rfl, rfl, rfl, rfl, rfl, rfl, rfl, trivial⟩ ?_
         exact ⟨v12, x19, v5, x10, rfl, rfl, hC35⟩
        replace hr7 := ite_f hr7 hc6
        refine W_reg ?_
        refine WL_move rfl rfl ?_
        refine WL_move rfl rfl ?_
        refine WL_move rfl rfl ?_
        obtain ⟨x20, hx6, hr7⟩ := bind_some hr7
        refine WL_index Tryz.underlying22 ty3 (hC21.ro 2 rfl) hx6 rfl rfl rfl (fun b8 o3 h5 => ?_)
        refine WL_load ty3 h5 (Keep.refl _ _) rfl rfl (fun v13 h6 => ?_)
        obtain rfl := ro_int h6
        refine WL_buildSlice (vs := [(.int .i64 x20)]) hC21 Tryz.underlying22 ty3 rfl rfl rfl rfl (by intro v hv; simp only [List.mem_cons, List.not_mem_nil, or_false] at hv; rcases hv with rfl <;> rfl) rfl rfl (fun b9 w15 hC36 hB13 => ?_)
        have hC37 := hC36.row0 (α := Int)
        have hC38 := hC37.triv (int_val (x20))
        have hC39 := hC38.row1
        have hC40 := hC39.front 1 rfl
        dsimp only [List.eraseIdx, List.cons_append, List.nil_append, List.append_nil] at hC40
        have hC41 : Ctx [] w0 w15 (Item.own (.slice (some ⟨b9, 0, none⟩) 1 1) ([x20] : List Int) :: [Item.own v5 (x10 : (List Int)), Item.own v4 (x9 : (List Int)), Item.own v1 (x1 : (List Int)), Item.own v2 (x4 : (List Int)), Item.box b1 [u3, u4]]) := hC40.rowOwn (by simp [maxLen])
        obtain ⟨x21, hx7, hr7⟩ := bind_some hr7
        refine WL_append_flat (α := Int) hC41 1 rfl (hC41.ro 0 rfl) (Keep.refl _ _) Tryz.underlying22 ty3 rfl hx7 rfl rfl rfl (fun v14 w16 hC42 => ?_)
        try dsimp only [List.set] at hC42
        refine WL_assign rfl rfl ?_
        refine WL_nil ?_
        have hq5 := Option.some.inj hr7
        subst hq5
        have hC43 := hC42.f5
        have hC44 := hC43.f5
        have hC45 := hC44.f5
        have hC46 := hC45.f5
        have hC47 := hC46.f5
        have hC48 := hC47.h5
        refine nrm_sub (l' := [(0, u1), (1, u2), (3, u5), (6, (ptr b1 0)), (10, v2), (11, (.bool x5)), (12, v1), (13, (.int .i64 x6)), (14, v4), (15, v14), (16, (.int .i64 x11))]) ⟨rfl, rfl, rfl, rfl, rfl, rfl, rfl, rfl, rfl, rfl, rfl, trivial⟩ ?_
        exact ⟨v4, x9, v14, x21, rfl, rfl, hC48⟩
       rintro l4 _ w12 hs4 ⟨v9, x16, v10, x17, rfl, rfl, hC22⟩
       try dsimp only at hL2
       refine blk_normal ?_
       refine nrm_sub' hs4 ?_
       clear hs4
       refine W_reg ?_
       refine WL_move rfl rfl ?_
       refine WL_add rfl rfl rfl ?_
       refine WL_assign rfl rfl ?_
       refine WL_nil ?_
       refine nrm_sub (l' := [(0, u1), (1, u2), (3, u5), (6, (ptr b1 0)), (10, v2), (11, (.bool x5)), (12, v1), (13, (.int .i64 x6)), (14, v9), (15, v10), (16, (.int .i64 (w64 (x11 + 1))))]) ⟨rfl, rfl, rfl, rfl, rfl, rfl, rfl, rfl, rfl, rfl, rfl, trivial⟩ ?_
       exact ⟨k2, Nat.lt_succ_self _, v9, x16, v10, x17, w64 (x11 + 1), rfl, hC22, hL2⟩
      replace hL2 := ite_f hL2 hc4
      refine W_exit (nrm_exit (nrm_exit (blk_exit ?_)))
      have hq6 := Option.some.inj hL2
      subst hq6
      refine nrm_sub (l' := [(0, u1), (1, u2), (3, u5), (6, (ptr b1 0)), (10, v2), (11, (.bool x5)), (12, v1), (13, (.int .i64 x6)), (14, v4), (15, v5)]) ⟨rfl, rfl, rfl, rfl, rfl, rfl, rfl, rfl, rfl, rfl, trivial⟩ ?_
      exact ⟨v4, x9, v5, x10, rfl, rfl, hC20⟩
    rintro l5 _ w17 hs5 ⟨v6, x12, v7, x13, rfl, rfl, hC49⟩
    try dsimp only at hL1
    refine nrm_sub' hs5 ?_
    clear hs5
    refine W_seq ?_
    obtain ⟨r5, hr8, hL1⟩ := bind_some hL1
    refine W_cut (fun l w => ∃ x22 : Bool, x22 = r5 ∧ l = [(0, u1), (1, u2), (3, u5), (6, (ptr b1 0)), (10, v2), (11, (.bool x5)), (12, v1), (13, (.int .i64 x6)), (14, v6), (15, v7), (80, (.bool x22))] ∧ Below w17.heap.size w17 w ∧ Ctx [] w0 w [Item.own v7 (x13 : (List Int)), Item.own v6 (x12 : (List Int)), Item.own v1 (x1 : (List Int)), Item.own v2 (x4 : (List Int)), Item.box b1 [u3, u4]]) ?_ ?_
    ·refine W_reg ?_
     refine WL_move rfl rfl ?_
     refine WL_move rfl rfl ?_
     refine WL_fork (fun hc7 => ?_) (fun hc7 => ?_)
     ·replace hr8 := ite_t hr8 hc7
      refine WL_guard rfl rfl ?_
      refine WL_move rfl rfl ?_
      refine WL_guard rfl rfl ?_
      refine WL_move rfl rfl ?_
      obtain ⟨x23, hr9, hr8⟩ := bind_some hr8
      refine WL_guard rfl rfl ?_
      refine WL_call Tryz.call62 rfl rfl (c_S_l15Less x12 v6 ((hC49.ro 1 rfl).now (Keep.refl _ _)) x4 v2 ((hC49.ro 3 rfl).now (Keep.refl _ _)) x23 hr9) ?_
      intro _ w19 hv4
      obtain ⟨rfl, hB16⟩ := res_bool hv4
      have hC51 := hC49.grow hB16
      refine WL_guard rfl rfl ?_
      refine WL_not rfl rfl ?_
      refine WL_pick_t rfl rfl rfl ?_
      refine WL_nil ?_
      have hq7 := Option.some.inj hr8
      subst hq7
      refine nrm_sub (l' := [(0, u1), (1, u2), (3, u5), (6, (ptr b1 0)), (10, v2), (11, (.bool x5)), (12, v1), (13, (.int .i64 x6)), (14, v6), (15, v7), (80, (.bool (!x23)))]) ⟨rfl, rfl, rfl, rfl, rfl, rfl, rfl, rfl, rfl, rfl, rfl, trivial⟩ ?_
      exact ⟨(!x23), rfl, rfl, (Keep.of hB16).below, hC51⟩
     replace hr8 := ite_f hr8 hc7
     refine WL_guard_skip rfl rfl (by simp) rfl ?_
     refine WL_guard_skip rfl rfl (by simp) rfl ?_
     refine WL_guard_skip rfl rfl (by simp) rfl ?_
     refine WL_guard_skip rfl rfl (by simp) rfl ?_
     refine WL_pick_f rfl rfl rfl ?_
     refine WL_nil ?_
     have hq8 := Option.some.inj hr8
     subst hq8
     refine nrm_sub (l' := [(0, u1), (1, u2), (3, u5), (6, (ptr b1 0)), (10, v2), (11, (.bool x5)), (12, v1), (13, (.int .i64 x6)), (14, v6), (15, v7), (80, (.bool false))]) ⟨rfl, rfl, rfl, rfl, rfl, rfl, rfl, rfl, rfl, rfl, rfl, trivial⟩ ?_
     exact ⟨false, rfl, rfl, (Below.refl _ _), hC49⟩
    rintro _ w18 ⟨x22, rfl, rfl, hB15, hC50⟩
    try dsimp only at hL1
    refine W_cond rfl (fun hc8 => ?_) (fun hc8 => ?_)
    ·replace hL1 := ite_t hL1 hc8
     refine W_exit (nrm_exit (blk_exit (nrm_normal (W_reg ?_))))
     refine WL_move rfl rfl ?_
     refine WL_add rfl rfl rfl ?_
     refine WL_assign rfl rfl ?_
     refine WL_nil ?_
     have hC52 := hC50.f4
     have hC53 := hC52.f4
     have hC54 := hC53.f4
     have hC55 := hC54.h3
     refine nrm_sub (l' := [(0, u1), (1, u2), (3, u5), (6, (ptr b1 0)), (10, v2), (11, (.bool x5)), (12, v1), (13, (.int .i64 (w64 (x6 + 1))))]) ⟨rfl, rfl, rfl, rfl, rfl, rfl, rfl, rfl, trivial⟩ ?_
     exact ⟨k1, Nat.lt_succ_self _, v2, x4, x5, w64 (x6 + 1), rfl, hC55, hL1⟩
    replace hL1 := ite_f hL1 hc8
    refine W_skip (nrm_normal (W_seq_reg ?_))
    refine WL_move rfl rfl ?_
    refine WL_move rfl rfl ?_
    refine WL_load_box_agg [u3, u4] hC50 4 rfl rfl rfl Tryz.isAgg37 Tryz.sizeOf37 rfl rfl ?_
    refine WL_move rfl rfl ?_
    obtain ⟨x24, hr10, hL1⟩ := bind_some hL1
    refine WL_call Tryz.call20 rfl rfl (c_S_FindPrivateOrder a1 u1 (g1.now hC50.keep) a2 u2 (g2.now hC50.keep) (a3.1, a3.2) u3 (g3.now hC50.keep) u4 (g4.now hC50.keep) x13 v7 ((hC50.ro 0 rfl).now (Keep.refl _ _)) x24 hr10) ?_
    rintro _ w20 ⟨hB17, v15, v16, F2, F3, rfl, hv5, hv6, hn2, hb2⟩
    obtain ⟨rfl, rfl⟩ := val_bool hv6
    have hC56 := hC50.pushL hB17 (Bs := [Item.own v15 x24.1]) (Fs := [F2]) ⟨F2, _, rfl, hv5, rfl⟩ (by simpa using hn2) (fun b h => hb2 b (by simpa using h))
    refine WL_move rfl rfl ?_
    refine WL_extract rfl rfl rfl ?_
    refine WL_extract rfl rfl rfl ?_
    refine WL_assign rfl rfl ?_
    refine WL_assign rfl rfl ?_
    refine WL_nil (W_seq_reg ?_)
    refine WL_move rfl rfl ?_
    refine WL_nil ?_
    obtain ⟨r6, hr11, hL1⟩ := bind_some hL1
    refine W_norm (fun l w => ∃ v17 : Value, ∃ x25 : (List Int), ∃ x26 : Bool, (x25, x26) = r6 ∧ l = [(0, u1), (1, u2), (3, u5), (6, (ptr b1 0)), (10, v17), (11, (.bool x26)), (12, v1), (13, (.int .i64 x6))] ∧ Below w20.heap.size w20 w ∧ Ctx [] w0 w [Item.own v1 (x1 : (List Int)), Item.own v17 (x25 : (List Int)), Item.box b1 [u3, u4]]) ?_ ?_
    ·refine W_cond rfl (fun hc9 => ?_) (fun hc9 => ?_)
     ·replace hr11 := ite_t hr11 hc9
      refine W_seq_reg ?_
      refine WL_move rfl rfl ?_
      refine WL_assign rfl rfl ?_
      refine WL_nil (W_reg ?_)
      refine WL_assign rfl rfl ?_
      refine WL_nil ?_
      have hq9 := Option.some.inj hr11
      subst hq9
      have hC58 := hC56.f5
      have hC59 := hC58.f3
      have hC60 := hC59.f4
      have hC61 := hC60.h3
      refine nrm_sub (l' := [(0, u1), (1, u2), (3, u5), (6, (ptr b1 0)), (10, v6), (11, (.bool true)), (12, v1), (13, (.int .i64 x6))]) ⟨rfl, rfl, rfl, rfl, rfl, rfl, rfl, rfl, trivial⟩ ?_
      exact ⟨v6, x12, true, rfl, rfl, (Below.refl _ _), hC61⟩
     replace hr11 := ite_f hr11 hc9
     refine W_skip ?_
     have hq10 := Option.some.inj hr11
     subst hq10
     have hC62 := hC56.f5
     have hC63 := hC62.f5
     have hC64 := hC63.f5
     have hC65 := hC64.h3
     refine nrm_sub (l' := [(0, u1), (1, u2), (3, u5), (6, (ptr b1 0)), (10, v2), (11, (.bool x5)), (12, v1), (13, (.int .i64 x6))]) ⟨rfl, rfl, rfl, rfl, rfl, rfl, rfl, rfl, trivial⟩ ?_
     exact ⟨v2, x4, x5, rfl, rfl, (Below.refl _ _), hC65⟩
    rintro l7 _ w21 hs7 ⟨v17, x25, x26, rfl, rfl, hB18, hC57⟩
    try dsimp only at hL1
    refine blk_normal ?_
    refine nrm_sub' hs7 ?_
    clear hs7
    refine W_reg ?_
    refine WL_move rfl rfl ?_
    refine WL_add rfl rfl rfl ?_
    refine WL_assign rfl rfl ?_
    refine WL_nil ?_
    refine nrm_sub (l' := [(0, u1), (1, u2), (3, u5), (6, (ptr b1 0)), (10, v17), (11, (.bool x26)), (12, v1), (13, (.int .i64 (w64 (x6 + 1))))]) ⟨rfl, rfl, rfl, rfl, rfl, rfl, rfl, rfl, trivial⟩ ?_
    exact ⟨k1, Nat.lt_succ_self _, v17, x25, x26, w64 (x6 + 1), rfl, hC57, hL1⟩
   replace hL1 := ite_f hL1 hc3
   refine W_exit (nrm_exit (nrm_exit (blk_exit ?_)))
   have hq11 := Option.some.inj hL1
   subst hq11
   have hC66 := hC11.f1
   have hC67 := hC66.h1
   refine nrm_sub (l' := [(10, v2), (11, (.bool x5))]) ⟨rfl, rfl, trivial⟩ ?_
   exact ⟨v2, x4, x5, rfl, rfl, hC67⟩
 rintro l8 _ w22 hs8 ⟨v3, x7, x8, rfl, rfl, hC68⟩
 try dsimp only at hF
 refine nrm_sub' hs8 ?_
 clear hs8
 refine W_seq_reg ?_
 refine WL_move rfl rfl ?_
 refine WL_move rfl rfl ?_
 refine WL_assign rfl rfl ?_
 refine WL_assign rfl rfl ?_
 refine WL_nil (W_ret ?_)
 have hq12 := Option.some.inj hF
 subst hq12
 refine fn_ret2 rfl rfl rfl ?_
 have hC69 := hC68.triv (bool_val (x8))
 have hC70 := hC69.f1
 exact ⟨_, rfl, res2_of hC70⟩

theorem c_M_within {w0 : World} (a1 : Int) (a2 : Int) (a3 : Int) (rr : Bool) (hF : M.within a1 a2 a3 = some rr) :
 Calls Tryz.prog 78 [(.int .i64 a1), (.int .i64 a2), (.int .i64 a3)].toArray w0 fun e w' => ∃ v, e = .returned v ∧ Res w0 rr v w' := by
 refine calls_of_W Tryz.func78 rfl rfl ?_
 have hC0 := Ctx.start w0
 unfold M.within at hF
 refine W_seq_reg ?_
 refine WL_assign rfl rfl ?_
 refine WL_nil ?_
 obtain ⟨r1, hr1, hF⟩ := bind_some hF
 refine W_cut (fun l w => ∃ x1 : Bool, x1 = r1 ∧ l = [(6, (.bool x1))] ∧ Below w0.heap.size w0 w ∧ Ctx [] w0 w []) ?_ ?_
 ·refine W_reg ?_
  refine WL_move rfl rfl ?_
  refine WL_move rfl rfl ?_
  refine WL_geq rfl rfl rfl ?_
  refine WL_move rfl rfl ?_
  refine WL_fork (fun hc1 => ?_) (fun hc1 => ?_)
  ·replace hr1 := ite_t hr1 hc1
   refine WL_guard rfl rfl ?_
   refine WL_move rfl rfl ?_
   refine WL_guard rfl rfl ?_
   refine WL_move rfl rfl ?_
   refine WL_guard rfl rfl ?_
   refine WL_leq rfl rfl rfl ?_
   refine WL_pick_t rfl rfl rfl ?_
   refine WL_assign rfl rfl ?_
   refine WL_nil ?_
   have hq1 := Option.some.inj hr1
   subst hq1
   refine nrm_sub (l' := [(6, (.bool (decide (a1 ≤ a3))))]) ⟨rfl, trivial⟩ ?_
   exact ⟨(decide (a1 ≤ a3)), rfl, rfl, (Below.refl _ _), hC0⟩
  replace hr1 := ite_f hr1 hc1
  refine WL_guard_skip rfl rfl (by simp) rfl ?_
  refine WL_guard_skip rfl rfl (by simp) rfl ?_
  refine WL_guard_skip rfl rfl (by simp) rfl ?_
  refine WL_pick_f rfl rfl rfl ?_
  refine WL_assign rfl rfl ?_
  refine WL_nil ?_
  have hq2 := Option.some.inj hr1
  subst hq2
  refine nrm_sub (l' := [(6, (.bool false))]) ⟨rfl, trivial⟩ ?_
  exact ⟨false, rfl, rfl, (Below.refl _ _), hC0⟩
 rintro _ w1 ⟨x1, rfl, rfl, hB1, hC1⟩
 try dsimp only at hF
 refine W_ret ?_
 have hq3 := Option.some.inj hF
 subst hq3
 refine fn_ret1 rfl rfl ?_
 exact ⟨_, rfl, bool_res hC1 _⟩

theorem c_M_IsSchema_c1 {w0 : World} (a1 : Int) (rr : Bool) (hF : M.IsSchema_c1 a1 = some rr) :
 Calls Tryz.prog 145 [(.int .i64 a1)].toArray w0 fun e w' => ∃ v, e = .returned v ∧ Res w0 rr v w' := by
 refine calls_of_W Tryz.func145 rfl rfl ?_
 have hC0 := Ctx.start w0
 unfold M.IsSchema_c1 at hF
 refine W_seq_reg ?_
 refine WL_assign rfl rfl ?_
 refine WL_nil (W_seq_reg ?_)
 refine WL_move rfl rfl ?_
 obtain ⟨x1, hr1, hF⟩ := bind_some hF
 refine WL_call Tryz.call78 rfl rfl (c_M_within a1 1 3 x1 hr1) ?_
 intro _ w1 hv1
 obtain ⟨rfl, hB1⟩ := res_bool hv1
 have hC1 := hC0.grow hB1
 refine WL_not rfl rfl ?_
 refine WL_assign rfl rfl ?_
 refine WL_nil (W_ret ?_)
 have hq1 := Option.some.inj hF
 subst hq1
 refine fn_ret1 rfl rfl ?_
 exact ⟨_, rfl, bool_res hC1 _⟩

theorem c_Slices_IndexFunc_Lint_int_M_IsSchema_c1 {w0 : World} (a1 : (List Int)) (u1 : Value) (g1 : RO [] w0 u1 a1) (rr : Int) (hF : Slices.IndexFunc_Lint_int_M_IsSchema_c1 a1 = some rr) :
 Calls Tryz.prog 99 [u1, (.func (.func 145) #[] #[])].toArray w0 fun e w' => ∃ v, e = .returned v ∧ Res w0 rr v w' := by
 refine calls_of_W Tryz.func99 rfl rfl ?_
 have hC0 := Ctx.start w0
 unfold Slices.IndexFunc_Lint_int_M_IsSchema_c1 at hF
 refine W_seq_reg ?_
 refine WL_assign rfl rfl ?_
 refine WL_nil (W_seq (W_seq_reg ?_))
 refine WL_move rfl rfl ?_
 refine WL_len Tryz.underlying22 g1 rfl rfl ?_
 refine WL_move rfl rfl ?_
 refine WL_nil ?_
 obtain ⟨r1, hr1, hF⟩ := bind_some hF
 refine W_norm (fun l w => .inl () = r1 ∧ l = [] ∧ Below w0.heap.size w0 w ∧ Ctx [] w0 w []) ?_ ?_
 ·refine W_block ?_
  refine W.sub (l' := [(0, u1), (1, (.func (.func 145) #[] #[])), (7, (.int .i64 (List.length a1 : Int))), (8, (.int .i64 0))]) ?_ ⟨rfl, rfl, rfl, rfl, trivial⟩
  refine W_loop (fun k l w => ∃ x1 : Int, l = [(0, u1), (1, (.func (.func 145) #[] #[])), (7, (.int .i64 (List.length a1 : Int))), (8, (.int .i64 x1))] ∧ Below w0.heap.size w0 w ∧ Ctx [] w0 w [] ∧ Slices.IndexFunc_Lint_int_M_IsSchema_c1_l1 a1 k x1 = some r1) FUEL ⟨0, rfl, (Below.refl _ _), hC0, hr1⟩ ?_
  clear hr1
  rintro k1 _ w1 ⟨x1, rfl, hB1, hC1, hL1⟩
  cases k1 with
  | zero => rw [Slices.IndexFunc_Lint_int_M_IsSchema_c1_l1] at hL1; cases hL1
  | succ k1 =>
   rw [Slices.IndexFunc_Lint_int_M_IsSchema_c1_l1] at hL1
   refine W_seq_reg ?_
   refine WL_lss rfl rfl rfl ?_
   refine WL_nil (W_seq ?_)
   refine W_cond rfl (fun hc1 => ?_) (fun hc1 => ?_)
   ·replace hL1 := ite_t hL1 hc1
    refine W_skip (nrm_normal (W_seq (W_block (W_seq_reg ?_))))
    refine WL_move rfl rfl ?_
    refine WL_assign rfl rfl ?_
    refine WL_nil (W_seq_reg ?_)
    refine WL_move rfl rfl ?_
    refine WL_move rfl rfl ?_
    refine WL_move rfl rfl ?_
    obtain ⟨x2, hx1, hL1⟩ := bind_some hL1
    refine WL_index Tryz.underlying22 ty3 g1 hx1 rfl rfl rfl (fun b1 o1 h1 => ?_)
    refine WL_load ty3 h1 hC1.keep rfl rfl (fun v1 h2 => ?_)
    obtain rfl := ro_int h2
    obtain ⟨x3, hr2, hL1⟩ := bind_some hL1
    refine WL_callv (cap := []) Tryz.call145 rfl rfl rfl (c_M_IsSchema_c1 x2 x3 hr2) ?_
    intro _ w2 hv1
    obtain ⟨rfl, hB2⟩ := res_bool hv1
    have hC2 := hC1.grow hB2
    refine WL_nil ?_
    refine W_cond rfl (fun hc2 => ?_) (fun hc2 => ?_)
    ·replace hL1 := ite_t hL1 hc2
     refine W_seq_reg ?_
     refine WL_move rfl rfl ?_
     refine WL_assign rfl rfl ?_
     refine WL_nil (W_ret (blk_ret (nrm_ret (nrm_ret (blk_ret (nrm_ret (nrm_ret ?_)))))))
     have hq1 := Option.some.inj hL1
     subst hq1
     dsimp only at hF
     have hq2 := Option.some.inj hF
     subst hq2
     refine fn_ret1 rfl rfl ?_
     exact ⟨_, rfl, int_res hC2 _⟩
    replace hL1 := ite_f hL1 hc2
    refine W_skip (blk_normal (nrm_normal (W_reg ?_)))
    refine WL_add rfl rfl rfl ?_
    refine WL_move rfl rfl ?_
    refine WL_nil ?_
    refine nrm_sub (l' := [(0, u1), (1, (.func (.func 145) #[] #[])), (7, (.int .i64 (List.length a1 : Int))), (8, (.int .i64 (w64 (x1 + 1))))]) ⟨rfl, rfl, rfl, rfl, trivial⟩ ?_
    exact ⟨k1, Nat.lt_succ_self _, w64 (x1 + 1), rfl, ((Keep.of hB1).then hB2).below, hC2, hL1⟩
   replace hL1 := ite_f hL1 hc1
   refine W_exit (nrm_exit (nrm_exit (blk_exit ?_)))
   have hq3 := Option.some.inj hL1
   subst hq3
   refine nrm_sub (l' := []) trivial ?_
   exact ⟨rfl, rfl, (Keep.of hB1).below, hC1⟩
 rintro l2 _ w3 hs2 ⟨rfl, rfl, hB3, hC3⟩
 try dsimp only at hF
 refine nrm_sub' hs2 ?_
 clear hs2
 refine W_seq_reg ?_
 refine WL_assign rfl rfl ?_
 refine WL_nil (W_ret ?_)
 have hq4 := Option.some.inj hF
 subst hq4
 refine fn_ret1 rfl rfl ?_
 exact ⟨_, rfl, int_res hC3 _⟩

theorem c_Slices_ContainsFunc_Lint_int_M_IsSchema_c1 {w0 : World} (a1 : (List Int)) (u1 : Value) (g1 : RO [] w0 u1 a1) (rr : Bool) (hF : Slices.ContainsFunc_Lint_int_M_IsSchema_c1 a1 = some rr) :
 Calls Tryz.prog 71 [u1, (.func (.func 145) #[] #[])].toArray w0 fun e w' => ∃ v, e = .returned v ∧ Res w0 rr v w' := by
 refine calls_of_W Tryz.func71 rfl rfl ?_
 have hC0 := Ctx.start w0
 unfold Slices.ContainsFunc_Lint_int_M_IsSchema_c1 at hF
 refine W_seq_reg ?_
 refine WL_assign rfl rfl ?_
 refine WL_nil (W_seq_reg ?_)
 refine WL_move rfl rfl ?_
 refine WL_move rfl rfl ?_
 obtain ⟨x1, hr1, hF⟩ := bind_some hF
 refine WL_call Tryz.call99 rfl rfl (c_Slices_IndexFunc_Lint_int_M_IsSchema_c1 a1 u1 (g1.now hC0.keep) x1 hr1) ?_
 intro _ w1 hv1
 obtain ⟨rfl, hB1⟩ := res_int hv1
 have hC1 := hC0.grow hB1
 refine WL_geq rfl rfl rfl ?_
 refine WL_assign rfl rfl ?_
 refine WL_nil (W_ret ?_)
 have hq1 := Option.some.inj hF
 subst hq1
 refine fn_ret1 rfl rfl ?_
 exact ⟨_, rfl, bool_res hC1 _⟩

theorem c_M_IsSchema {w0 : World} (a1 : (List Int)) (u1 : Value) (g1 : RO [] w0 u1 a1) (rr : Bool) (hF : M.IsSchema a1 = some rr) :
 Calls Tryz.prog 114 [u1].toArray w0 fun e w' => ∃ v, e = .returned v ∧ Res w0 rr v w' := by
 refine calls_of_W Tryz.func114 rfl rfl ?_
 have hC0 := Ctx.start w0
 unfold M.IsSchema at hF
 refine W_seq_reg ?_
 refine WL_assign rfl rfl ?_
 refine WL_nil ?_
 obtain ⟨r1, hr1, hF⟩ := bind_some hF
 refine W_cut (fun l w => ∃ x1 : Bool, x1 = r1 ∧ l = [(2, (.bool x1))] ∧ Below w0.heap.size w0 w ∧ Ctx [] w0 w []) ?_ ?_
 ·refine W_reg ?_
  refine WL_move rfl rfl ?_
  refine WL_len Tryz.underlying22 g1 rfl rfl ?_
  obtain ⟨x2, hr2, hr1⟩ := bind_some hr1
  refine WL_call Tryz.call78 rfl rfl (c_M_within (List.length a1 : Int) 1 3 x2 hr2) ?_
  intro _ w2 hv1
  obtain ⟨rfl, hB2⟩ := res_bool hv1
  have hC2 := hC0.grow hB2
  refine WL_move rfl rfl ?_
  refine WL_fork (fun hc1 => ?_) (fun hc1 => ?_)
  ·replace hr1 := ite_t hr1 hc1
   refine WL_guard rfl rfl ?_
   refine WL_move rfl rfl ?_
   obtain ⟨x3, hr3, hr1⟩ := bind_some hr1
   refine WL_guard rfl rfl ?_
   refine WL_call Tryz.call71 rfl rfl (c_Slices_ContainsFunc_Lint_int_M_IsSchema_c1 a1 u1 (g1.now hC2.keep) x3 hr3) ?_
   intro _ w3 hv2
   obtain ⟨rfl, hB3⟩ := res_bool hv2
   have hC3 := hC2.grow hB3
   refine WL_guard rfl rfl ?_
   refine WL_not rfl rfl ?_
   refine WL_pick_t rfl rfl rfl ?_
   refine WL_assign rfl rfl ?_
   refine WL_nil ?_
   have hq1 := Option.some.inj hr1
   subst hq1
   refine nrm_sub (l' := [(2, (.bool (!x3)))]) ⟨rfl, trivial⟩ ?_
   exact ⟨(!x3), rfl, rfl, ((Keep.of hB2).then hB3).below, hC3⟩
  replace hr1 := ite_f hr1 hc1
  refine WL_guard_skip rfl rfl (by simp) rfl ?_
  refine WL_guard_skip rfl rfl (by simp) rfl ?_
  refine WL_guard_skip rfl rfl (by simp) rfl ?_
  refine WL_pick_f rfl rfl rfl ?_
  refine WL_assign rfl rfl ?_
  refine WL_nil ?_
  have hq2 := Option.some.inj hr1
  subst hq2
  refine nrm_sub (l' := [(2, (.bool false))]) ⟨rfl, trivial⟩ ?_
  exact ⟨false, rfl, rfl, (Keep.of hB2).below, hC2⟩
 rintro _ w1 ⟨x1, rfl, rfl, hB1, hC1⟩
 try dsimp only at hF
 refine W_ret ?_
 have hq3 := Option.some.inj hF
 subst hq3
 refine fn_ret1 rfl rfl ?_
 exact ⟨_, rfl, bool_res hC1 _⟩

theorem c_M_hasRel {w0 : World} (a1 : (List Int)) (u1 : Value) (g1 : RO [] w0 u1 a1) (a2 : Int) (rr : Bool) (hF : M.hasRel a1 a2 = some rr) :
 Calls Tryz.prog 146 [u1, (.int .i64 a2)].toArray w0 fun e w' => ∃ v, e = .returned v ∧ Res w0 rr v w' := by
 refine calls_of_W Tryz.func146 rfl rfl ?_
 have hC0 := Ctx.start w0
 unfold M.hasRel at hF
 refine W_seq_reg ?_
 refine WL_assign rfl rfl ?_
 refine WL_nil ?_
 obtain ⟨r1, hr1, hF⟩ := bind_some hF
 refine W_cut (fun l w => ∃ x1 : Bool, x1 = r1 ∧ l = [(4, (.bool x1))] ∧ Below w0.heap.size w0 w ∧ Ctx [] w0 w []) ?_ ?_
 ·refine W_reg ?_
  refine WL_move rfl rfl ?_
  obtain ⟨x2, hr2, hr1⟩ := bind_some hr1
  refine WL_call Tryz.call114 rfl rfl (c_M_IsSchema a1 u1 (g1.now hC0.keep) x2 hr2) ?_
  intro _ w2 hv1
  obtain ⟨rfl, hB2⟩ := res_bool hv1
  have hC2 := hC0.grow hB2
  refine WL_move rfl rfl ?_
  refine WL_fork (fun hc1 => ?_) (fun hc1 => ?_)
  ·replace hr1 := ite_t hr1 hc1
   refine WL_guard rfl rfl ?_
   refine WL_move rfl rfl ?_
   refine WL_guard rfl rfl ?_
   refine WL_move rfl rfl ?_
   refine WL_guard rfl rfl ?_
   refine WL_len Tryz.underlying22 g1 rfl rfl ?_
   refine WL_guard rfl rfl ?_
   refine WL_sub rfl rfl rfl ?_
   obtain ⟨x3, hr3, hr1⟩ := bind_some hr1
   refine WL_guard rfl rfl ?_
   refine WL_call Tryz.call78 rfl rfl (c_M_within a2 0 (w64 ((List.length a1 : Int) - 1)) x3 hr3) ?_
   intro _ w3 hv2
   obtain ⟨rfl, hB3⟩ := res_bool hv2
   have hC3 := hC2.grow hB3
   refine WL_pick_t rfl rfl rfl ?_
   refine WL_assign rfl rfl ?_
   refine WL_nil ?_
   have hq1 := Option.some.inj hr1
   subst hq1
   refine nrm_sub (l' := [(4, (.bool x3))]) ⟨rfl, trivial⟩ ?_
   exact ⟨x3, rfl, rfl, ((Keep.of hB2).then hB3).below, hC3⟩
  replace hr1 := ite_f hr1 hc1
  refine WL_guard_skip rfl rfl (by simp) rfl ?_
  refine WL_guard_skip rfl rfl (by simp) rfl ?_
  refine WL_guard_skip rfl rfl (by simp) rfl ?_
  refine WL_guard_skip rfl rfl (by simp) rfl ?_
  refine WL_guard_skip rfl rfl (by simp) rfl ?_
  refine WL_pick_f rfl rfl rfl ?_
  refine WL_assign rfl rfl ?_
  refine WL_nil ?_
  have hq2 := Option.some.inj hr1
  subst hq2
  refine nrm_sub (l' := [(4, (.bool false))]) ⟨rfl, trivial⟩ ?_
  exact ⟨false, rfl, rfl, (Keep.of hB2).below, hC2⟩
 rintro _ w1 ⟨x1, rfl, rfl, hB1, hC1⟩
 try dsimp only at hF
 refine W_ret ?_
 have hq3 := Option.some.inj hF
 subst hq3
 refine fn_ret1 rfl rfl ?_
 exact ⟨_, rfl, bool_res hC1 _⟩

theorem c_M_ascending {w0 : World} (a1 : (List Int)) (u1 : Value) (g1 : RO [] w0 u1 a1) (rr : Bool) (hF : M.ascending a1 = some rr) :
 Calls Tryz.prog 160 [u1].toArray w0 fun e w' => ∃ v, e = .returned v ∧ Res w0 rr v w' := by
 refine calls_of_W Tryz.func160 rfl rfl ?_
 have hC0 := Ctx.start w0
 unfold M.ascending at hF
 refine W_seq_reg ?_
 refine WL_assign rfl rfl ?_
 refine WL_nil (W_seq (W_seq_reg ?_))
 refine WL_move rfl rfl ?_
 refine WL_len Tryz.underlying22 g1 rfl rfl ?_
 refine WL_move rfl rfl ?_
 refine WL_nil ?_
 obtain ⟨r1, hr1, hF⟩ := bind_some hF
 refine W_norm (fun l w => .inl () = r1 ∧ l = [] ∧ Below w0.heap.size w0 w ∧ Ctx [] w0 w []) ?_ ?_
 ·refine W_block ?_
  refine W.sub (l' := [(0, u1), (5, (.int .i64 (List.length a1 : Int))), (6, (.int .i64 0))]) ?_ ⟨rfl, rfl, rfl, trivial⟩
  refine W_loop (fun k l w => ∃ x1 : Int, l = [(0, u1), (5, (.int .i64 (List.length a1 : Int))), (6, (.int .i64 x1))] ∧ Below w0.heap.size w0 w ∧ Ctx [] w0 w [] ∧ M.ascending_l1 a1 k x1 = some r1) FUEL ⟨0, rfl, (Below.refl _ _), hC0, hr1⟩ ?_
  clear hr1
  rintro k1 _ w1 ⟨x1, rfl, hB1, hC1, hL1⟩
  cases k1 with
  | zero => rw [M.ascending_l1] at hL1; cases hL1
  | succ k1 =>
   rw [M.ascending_l1] at hL1
   refine W_seq_reg ?_
   refine WL_lss rfl rfl rfl ?_
   refine WL_nil (W_seq ?_)
   refine W_cond rfl (fun hc1 => ?_) (fun hc1 => ?_)
   ·replace hL1 := ite_t hL1 hc1
    refine W_skip (nrm_normal (W_seq (W_block (W_seq_reg ?_))))
    refine WL_move rfl rfl ?_
    refine WL_assign rfl rfl ?_
    refine WL_nil ?_
    obtain ⟨r2, hr2, hL1⟩ := bind_some hL1
    refine W_cut (fun l w => ∃ x2 : Bool, x2 = r2 ∧ l = [(0, u1), (5, (.int .i64 (List.length a1 : Int))), (6, (.int .i64 x1)), (22, (.bool x2))] ∧ Below w1.heap.size w1 w ∧ Ctx [] w0 w []) ?_ ?_
    ·refine W_drawn 14 rfl hmix (fun w3 hB3 => ?_)
     have hC3 := hC1.grow hB3
     refine WA_tk 0 (by kernel_rfl) rfl rfl (fl_move rfl) ?_
     refine WL_move rfl rfl ?_
     refine WL_nil ?_
     refine WA_tk 1 (by kernel_rfl) rfl rfl (fl_gtr rfl rfl) ?_
     refine WL_gtr rfl rfl rfl ?_
     refine WL_nil ?_
     refine WA_tk 2 (by kernel_rfl) rfl rfl (fl_move rfl) ?_
     refine WL_move rfl rfl ?_
     refine WL_nil ?_
     refine WA_fork (fun hc2 => ?_) (fun hc2 => ?_)
     ·replace hr2 := ite_t hr2 hc2
      refine WA_takeG 3 rfl (by kernel_rfl) (by kernel_rfl) (by kernel_rfl) rfl rfl rfl (fl_move rfl) ?_
      refine WL_guard rfl rfl ?_
      refine WL_move rfl rfl ?_
      refine WL_nil ?_
      refine WA_takeG 4 rfl (by kernel_rfl) (by kernel_rfl) (by kernel_rfl) rfl rfl rfl (fl_move rfl) ?_
      refine WL_guard rfl rfl ?_
      refine WL_move rfl rfl ?_
      refine WL_nil ?_
      obtain ⟨x3, hx1, hr2⟩ := bind_some hr2
      refine WA_takeG 5 rfl (by kernel_rfl) (by kernel_rfl) (by kernel_rfl) rfl rfl rfl (fl_index Tryz.underlying22 ty3 g1 hx1 rfl rfl) ?_
      refine WL_guard rfl rfl ?_
      refine WL_index Tryz.underlying22 ty3 g1 hx1 rfl rfl rfl (fun b1 o1 h1 => ?_)
      refine WL_nil ?_
      refine WA_takeG 7 rfl (by kernel_rfl) (by kernel_rfl) (by kernel_rfl) rfl rfl rfl (fl_move rfl) ?_
      refine WL_guard rfl rfl ?_
      refine WL_move rfl rfl ?_
      refine WL_nil ?_
      refine WA_takeG 8 rfl (by kernel_rfl) (by kernel_rfl) (by kernel_rfl) rfl rfl rfl (fl_move rfl) ?_
      refine WL_guard rfl rfl ?_
      refine WL_move rfl rfl ?_
      refine WL_nil ?_
      refine WA_takeG 9 rfl (by kernel_rfl) (by kernel_rfl) (by kernel_rfl) rfl rfl rfl (fl_sub rfl rfl) ?_
      refine WL_guard rfl rfl ?_
      refine WL_sub rfl rfl rfl ?_
      refine WL_nil ?_
      obtain ⟨x4, hx2, hr2⟩ := bind_some hr2
      refine WA_takeG 10 rfl (by kernel_rfl) (by kernel_rfl) (by kernel_rfl) rfl rfl rfl (fl_index Tryz.underlying22 ty3 g1 hx2 rfl rfl) ?_
      refine WL_guard rfl rfl ?_
      refine WL_index Tryz.underlying22 ty3 g1 hx2 rfl rfl rfl (fun b2 o2 h2 => ?_)
      refine WL_nil ?_
      refine WA.sub (l' := [(0, u1), (3, (.int .i64 x1)), (5, (.int .i64 (List.length a1 : Int))), (6, (.int .i64 x1)), (7, (.bool (decide (x1 < (List.length a1 : Int))))), (8, (.int .i64 x1)), (9, (.int .i64 x1)), (10, (.bool (decide (0 < x1)))), (11, (.bool true)), (12, u1), (13, (.int .i64 x1)), (14, (ptr b1 o1)), (16, u1), (17, (.int .i64 x1)), (18, (.int .i64 (w64 (x1 - 1)))), (19, (ptr b2 o2))]) ?_ ⟨rfl, rfl, rfl, rfl, rfl, rfl, rfl, rfl, rfl, rfl, rfl, rfl, rfl, rfl, rfl, rfl, trivial⟩
      refine WA_postsE [⟨6, [], fun vs => PW.val (.int .i64 x3), []⟩, ⟨11, [], fun vs => PW.val (.int .i64 x4), []⟩] [[], []] 2 rfl (by kernel_rfl) (by kernel_rfl) rfl ?_ ?_
      ·refine StepsE_cons rfl ?_ ?_
       ·intro w4 hB4
        refine DepsE_nil ?_
        refine ⟨_, rfl, ?_⟩
        refine WL_guard rfl rfl ?_
        refine WL_load ty3 h1 (hC3.keep.then hB4) rfl rfl (fun v1 h3 => ?_)
        obtain rfl := ro_int h3
        refine WL_nil ?_
        exact FinE_val (Below.refl _ _) rfl rfl ⟨rfl, rfl⟩
       refine StepsE_cons rfl ?_ ?_
       ·intro w4 hB4
        refine DepsE_nil ?_
        refine ⟨_, rfl, ?_⟩
        refine WL_guard rfl rfl ?_
        refine WL_load ty3 h2 (hC3.keep.then hB4) rfl rfl (fun v2 h4 => ?_)
        obtain rfl := ro_int h4
        refine WL_nil ?_
        exact FinE_val (Below.refl _ _) rfl rfl ⟨rfl, rfl⟩
       exact StepsE_nil
      intro w5 hB5
      refine AllE_cons rfl rfl rfl ?_
      rintro _ _ ⟨rfl, rfl⟩
      refine AllE_cons rfl rfl rfl ?_
      rintro _ _ ⟨rfl, rfl⟩
      refine AllE_nil ?_
      intro hn1 hb1
      have hC4 := hC3.grow hB5
      refine WA_takeG 12 rfl (by kernel_rfl) (by kernel_rfl) (by kernel_rfl) rfl rfl rfl (fl_leq rfl rfl) ?_
      refine WL_guard rfl rfl ?_
      refine WL_leq rfl rfl rfl ?_
      refine WL_nil ?_
      refine WA_tk 13 (by kernel_rfl) rfl rfl (fl_pick_t rfl rfl) ?_
      refine WL_pick_t rfl rfl rfl ?_
      refine WL_nil ?_
      refine WA_done (by kernel_rfl) ?_
      have hq1 := Option.some.inj hr2
      subst hq1
      refine nrm_sub (l' := [(0, u1), (5, (.int .i64 (List.length a1 : Int))), (6, (.int .i64 x1)), (22, (.bool (decide (x3 ≤ x4))))]) ⟨rfl, rfl, rfl, rfl, trivial⟩ ?_
      exact ⟨(decide (x3 ≤ x4)), rfl, rfl, ((Keep.of hB3).then hB5).below, hC4⟩
     replace hr2 := ite_f hr2 hc2
     refine WA_sk 3 (by kernel_rfl) rfl rfl rfl rfl (by simp) rfl rfl ?_
     refine WA_sk 4 (by kernel_rfl) rfl rfl rfl rfl (by simp) rfl rfl ?_
     refine WA_sk 5 (by kernel_rfl) rfl rfl rfl rfl (by simp) rfl rfl ?_
     refine WA_sk 6 (by kernel_rfl) rfl rfl rfl rfl (by simp) rfl rfl ?_
     refine WA_sk 7 (by kernel_rfl) rfl rfl rfl rfl (by simp) rfl rfl ?_
     refine WA_sk 8 (by kernel_rfl) rfl rfl rfl rfl (by simp) rfl rfl ?_
     refine WA_sk 9 (by kernel_rfl) rfl rfl rfl rfl (by simp) rfl rfl ?_
     refine WA_sk 10 (by kernel_rfl) rfl rfl rfl rfl (by simp) rfl rfl ?_
     refine WA_sk 11 (by kernel_rfl) rfl rfl rfl rfl (by simp) rfl rfl ?_
     refine WA_sk 12 (by kernel_rfl) rfl rfl rfl rfl (by simp) rfl rfl ?_
     refine WA_tk 13 (by kernel_rfl) rfl rfl (fl_pick_f rfl rfl) ?_
     refine WL_pick_f rfl rfl rfl ?_
     refine WL_nil ?_
     refine WA_done (by kernel_rfl) ?_
     have hq2 := Option.some.inj hr2
     subst hq2
     refine nrm_sub (l' := [(0, u1), (5, (.int .i64 (List.length a1 : Int))), (6, (.int .i64 x1)), (22, (.bool false))]) ⟨rfl, rfl, rfl, rfl, trivial⟩ ?_
     exact ⟨false, rfl, rfl, (Keep.of hB3).below, hC3⟩
    rintro _ w2 ⟨x2, rfl, rfl, hB2, hC2⟩
    try dsimp only at hL1
    refine W_cond rfl (fun hc3 => ?_) (fun hc3 => ?_)
    ·replace hL1 := ite_t hL1 hc3
     refine W_seq_reg ?_
     refine WL_assign rfl rfl ?_
     refine WL_nil (W_ret (blk_ret (nrm_ret (nrm_ret (blk_ret (nrm_ret (nrm_ret ?_)))))))
     have hq3 := Option.some.inj hL1
     subst hq3
     dsimp only at hF
     have hq4 := Option.some.inj hF
     subst hq4
     refine fn_ret1 rfl rfl ?_
     exact ⟨_, rfl, bool_res hC2 _⟩
    replace hL1 := ite_f hL1 hc3
    refine W_skip (blk_normal (nrm_normal (W_reg ?_)))
    refine WL_add rfl rfl rfl ?_
    refine WL_move rfl rfl ?_
    refine WL_nil ?_
    refine nrm_sub (l' := [(0, u1), (5, (.int .i64 (List.length a1 : Int))), (6, (.int .i64 (w64 (x1 + 1))))]) ⟨rfl, rfl, rfl, trivial⟩ ?_
    exact ⟨k1, Nat.lt_succ_self _, w64 (x1 + 1), rfl, ((Keep.of hB1).then hB2).below, hC2, hL1⟩
   replace hL1 := ite_f hL1 hc1
   refine W_exit (nrm_exit (nrm_exit (blk_exit ?_)))
   have hq5 := Option.some.inj hL1
   subst hq5
   refine nrm_sub (l' := []) trivial ?_
   exact ⟨rfl, rfl, (Keep.of hB1).below, hC1⟩
 rintro l3 _ w6 hs3 ⟨rfl, rfl, hB6, hC5⟩
 try dsimp only at hF
 refine nrm_sub' hs3 ?_
 clear hs3
 refine W_seq_reg ?_
 refine WL_assign rfl rfl ?_
 refine WL_nil (W_ret ?_)
 have hq6 := Option.some.inj hF
 subst hq6
 refine fn_ret1 rfl rfl ?_
 exact ⟨_, rfl, bool_res hC5 _⟩

theorem c_M_Method_fits_c1 {w0 : World} (a1 : Int) (pb1 : Nat) (ax1 : Int) (g1 : ROAt [] w0 pb1 0 ax1) (rr : Bool) (hF : M.Method_fits_c1 a1 ax1 = some rr) :
 Calls Tryz.prog 161 [(.int .i64 a1), (ptr pb1 0)].toArray w0 fun e w' => ∃ v, e = .returned v ∧ Res w0 rr v w' := by
 refine calls_of_W Tryz.func161 rfl rfl ?_
 have hC0 := Ctx.start w0
 unfold M.Method_fits_c1 at hF
 refine W_seq_reg ?_
 refine WL_assign rfl rfl ?_
 refine WL_nil (W_seq_reg ?_)
 refine WL_move rfl rfl ?_
 refine WL_load ty3 g1 hC0.keep rfl rfl (fun v1 h1 => ?_)
 obtain rfl := ro_int h1
 refine WL_sub rfl rfl rfl ?_
 obtain ⟨x1, hr1, hF⟩ := bind_some hF
 refine WL_call Tryz.call78 rfl rfl (c_M_within a1 0 (w64 (ax1 - 1)) x1 hr1) ?_
 intro _ w1 hv1
 obtain ⟨rfl, hB1⟩ := res_bool hv1
 have hC1 := hC0.grow hB1
 refine WL_not rfl rfl ?_
 refine WL_assign rfl rfl ?_
 refine WL_nil (W_ret ?_)
 have hq1 := Option.some.inj hF
 subst hq1
 refine fn_ret1 rfl rfl ?_
 exact ⟨_, rfl, bool_res hC1 _⟩

theorem c_M_isCost {w0 : World} (a1 : Int) (rr : Bool) (hF : M.isCost a1 = some rr) :
 Calls Tryz.prog 162 [(.int .i64 a1)].toArray w0 fun e w' => ∃ v, e = .returned v ∧ Res w0 rr v w' := by
 refine calls_of_W Tryz.func162 rfl rfl ?_
 have hC0 := Ctx.start w0
 unfold M.isCost at hF
 refine W_seq_reg ?_
 refine WL_assign rfl rfl ?_
 refine WL_nil (W_seq_reg ?_)
 refine WL_move rfl rfl ?_
 obtain ⟨x1, hr1, hF⟩ := bind_some hF
 refine WL_call Tryz.call78 rfl rfl (c_M_within a1 0 99 x1 hr1) ?_
 intro _ w1 hv1
 obtain ⟨rfl, hB1⟩ := res_bool hv1
 have hC1 := hC0.grow hB1
 refine WL_assign rfl rfl ?_
 refine WL_nil (W_ret ?_)
 have hq1 := Option.some.inj hF
 subst hq1
 refine fn_ret1 rfl rfl ?_
 exact ⟨_, rfl, bool_res hC1 _⟩

theorem c_Slices_IndexFunc_Lint_int_M_Method_fits_c1 {w0 : World} (a1 : (List Int)) (u1 : Value) (g1 : RO [] w0 u1 a1) (pb1 : Nat) (ax1 : Int) (g2 : ROAt [] w0 pb1 0 ax1) (rr : Int) (hF : Slices.IndexFunc_Lint_int_M_Method_fits_c1 a1 ax1 = some rr) :
 Calls Tryz.prog 99 [u1, (.func (.func 161) #[] #[(ptr pb1 0)])].toArray w0 fun e w' => ∃ v, e = .returned v ∧ Res w0 rr v w' := by
 refine calls_of_W Tryz.func99 rfl rfl ?_
 have hC0 := Ctx.start w0
 unfold Slices.IndexFunc_Lint_int_M_Method_fits_c1 at hF
 refine W_seq_reg ?_
 refine WL_assign rfl rfl ?_
 refine WL_nil (W_seq (W_seq_reg ?_))
 refine WL_move rfl rfl ?_
 refine WL_len Tryz.underlying22 g1 rfl rfl ?_
 refine WL_move rfl rfl ?_
 refine WL_nil ?_
 obtain ⟨r1, hr1, hF⟩ := bind_some hF
 refine W_norm (fun l w => .inl () = r1 ∧ l = [] ∧ Below w0.heap.size w0 w ∧ Ctx [] w0 w []) ?_ ?_
 ·refine W_block ?_
  refine W.sub (l' := [(0, u1), (1, (.func (.func 161) #[] #[(ptr pb1 0)])), (7, (.int .i64 (List.length a1 : Int))), (8, (.int .i64 0))]) ?_ ⟨rfl, rfl, rfl, rfl, trivial⟩
  refine W_loop (fun k l w => ∃ x1 : Int, l = [(0, u1), (1, (.func (.func 161) #[] #[(ptr pb1 0)])), (7, (.int .i64 (List.length a1 : Int))), (8, (.int .i64 x1))] ∧ Below w0.heap.size w0 w ∧ Ctx [] w0 w [] ∧ Slices.IndexFunc_Lint_int_M_Method_fits_c1_l1 a1 ax1 k x1 = some r1) FUEL ⟨0, rfl, (Below.refl _ _), hC0, hr1⟩ ?_
  clear hr1
  rintro k1 _ w1 ⟨x1, rfl, hB1, hC1, hL1⟩
  cases k1 with
  | zero => rw [Slices.IndexFunc_Lint_int_M_Method_fits_c1_l1] at hL1; cases hL1
  | succ k1 =>
   rw [Slices.IndexFunc_Lint_int_M_Method_fits_c1_l1] at hL1
   refine W_seq_reg ?_
   refine WL_lss rfl rfl rfl ?_
   refine WL_nil (W_seq ?_)
   refine W_cond rfl (fun hc1 => ?_) (fun hc1 => ?_)
   ·replace hL1 := ite_t hL1 hc1
    refine W_skip (nrm_normal (W_seq (W_block (W_seq_reg ?_))))
    refine WL_move rfl rfl ?_
    refine WL_assign rfl rfl ?_
    refine WL_nil (W_seq_reg ?_)
    refine WL_move rfl rfl ?_
    refine WL_move rfl rfl ?_
    refine WL_move rfl rfl ?_
    obtain ⟨x2, hx1, hL1⟩ := bind_some hL1
    refine WL_index Tryz.underlying22 ty3 g1 hx1 rfl rfl rfl (fun b1 o1 h1 => ?_)
    refine WL_load ty3 h1 hC1.keep rfl rfl (fun v1 h2 => ?_)
    obtain rfl := ro_int h2
    obtain ⟨x3, hr2, hL1⟩ := bind_some hL1
    refine WL_callv (cap := [(ptr pb1 0)]) Tryz.call161 rfl rfl rfl (c_M_Method_fits_c1 x2 pb1 ax1 (g2.now hC1.keep) x3 hr2) ?_
    intro _ w2 hv1
    obtain ⟨rfl, hB2⟩ := res_bool hv1
    have hC2 := hC1.grow hB2
    refine WL_nil ?_
    refine W_cond rfl (fun hc2 => ?_) (fun hc2 => ?_)
    ·replace hL1 := ite_t hL1 hc2
     refine W_seq_reg ?_
     refine WL_move rfl rfl ?_
     refine WL_assign rfl rfl ?_
     refine WL_nil (W_ret (blk_ret (nrm_ret (nrm_ret (blk_ret (nrm_ret (nrm_ret ?_)))))))
     have hq1 := Option.some.inj hL1
     subst hq1
     dsimp only at hF
     have hq2 := Option.some.inj hF
     subst hq2
     refine fn_ret1 rfl rfl ?_
     exact ⟨_, rfl, int_res hC2 _⟩
    replace hL1 := ite_f hL1 hc2
    refine W_skip (blk_normal (nrm_normal (W_reg ?_)))
    refine WL_add rfl rfl rfl ?_
    refine WL_move rfl rfl ?_
    refine WL_nil ?_
    refine nrm_sub (l' := [(0, u1), (1, (.func (.func 161) #[] #[(ptr pb1 0)])), (7, (.int .i64 (List.length a1 : Int))), (8, (.int .i64 (w64 (x1 + 1))))]) ⟨rfl, rfl, rfl, rfl, trivial⟩ ?_
    exact ⟨k1, Nat.lt_succ_self _, w64 (x1 + 1), rfl, ((Keep.of hB1).then hB2).below, hC2, hL1⟩
   replace hL1 := ite_f hL1 hc1
   refine W_exit (nrm_exit (nrm_exit (blk_exit ?_)))
   have hq3 := Option.some.inj hL1
   subst hq3
   refine nrm_sub (l' := []) trivial ?_
   exact ⟨rfl, rfl, (Keep.of hB1).below, hC1⟩
 rintro l2 _ w3 hs2 ⟨rfl, rfl, hB3, hC3⟩
 try dsimp only at hF
 refine nrm_sub' hs2 ?_
 clear hs2
 refine W_seq_reg ?_
 refine WL_assign rfl rfl ?_
 refine WL_nil (W_ret ?_)
 have hq4 := Option.some.inj hF
 subst hq4
 refine fn_ret1 rfl rfl ?_
 exact ⟨_, rfl, int_res hC3 _⟩

theorem c_Slices_ContainsFunc_Lint_int_M_Method_fits_c1 {w0 : World} (a1 : (List Int)) (u1 : Value) (g1 : RO [] w0 u1 a1) (pb1 : Nat) (ax1 : Int) (g2 : ROAt [] w0 pb1 0 ax1) (rr : Bool) (hF : Slices.ContainsFunc_Lint_int_M_Method_fits_c1 a1 ax1 = some rr) :
 Calls Tryz.prog 71 [u1, (.func (.func 161) #[] #[(ptr pb1 0)])].toArray w0 fun e w' => ∃ v, e = .returned v ∧ Res w0 rr v w' := by
 refine calls_of_W Tryz.func71 rfl rfl ?_
 have hC0 := Ctx.start w0
 unfold Slices.ContainsFunc_Lint_int_M_Method_fits_c1 at hF
 refine W_seq_reg ?_
 refine WL_assign rfl rfl ?_
 refine WL_nil (W_seq_reg ?_)
 refine WL_move rfl rfl ?_
 refine WL_move rfl rfl ?_
 obtain ⟨x1, hr1, hF⟩ := bind_some hF
 refine WL_call Tryz.call99 rfl rfl (c_Slices_IndexFunc_Lint_int_M_Method_fits_c1 a1 u1 (g1.now hC0.keep) pb1 ax1 (g2.now hC0.keep) x1 hr1) ?_
 intro _ w1 hv1
 obtain ⟨rfl, hB1⟩ := res_int hv1
 have hC1 := hC0.grow hB1
 refine WL_geq rfl rfl rfl ?_
 refine WL_assign rfl rfl ?_
 refine WL_nil (W_ret ?_)
 have hq1 := Option.some.inj hF
 subst hq1
 refine fn_ret1 rfl rfl ?_
 exact ⟨_, rfl, bool_res hC1 _⟩

theorem c_M_Method_fits {w0 : World} (a1 : (Int × (List Int) × Int × Int × Int)) (u1 : Value) (g1 : RO [] w0 u1 a1.2.1) (a2 : Int) (rr : Bool) (hF : M.Method_fits a1 a2 = some rr) :
 Calls Tryz.prog 147 [(.agg #[(.int .i64 a1.1), u1, (.int .i64 a1.2.2.1), (.int .i64 a1.2.2.2.1), (.int .i64 a1.2.2.2.2)]), (.int .i64 a2)].toArray w0 fun e w' => ∃ v, e = .returned v ∧ Res w0 rr v w' := by
 refine calls_of_W Tryz.func147 rfl rfl ?_
 have hC0 := Ctx.start w0
 unfold M.Method_fits at hF
 refine W_seq_reg ?_
 refine WL_boxK (cs := [(.int .i64 a1.1), u1, (.int .i64 a1.2.2.1), (.int .i64 a1.2.2.2.1), (.int .i64 a1.2.2.2.2)]) hC0 rfl rfl rfl (fun b1 w1 hC1 hB1 hN1 => ?_)
 refine WL_boxK (cs := [(.int .i64 a2)]) hC1 rfl rfl rfl (fun b2 w2 hC2 hB2 hN2 => ?_)
 refine WL_assign rfl rfl ?_
 refine WL_nil ?_
 obtain ⟨r1, hr1, hF⟩ := bind_some hF
 refine W_cut (fun l w => ∃ x1 : Bool, x1 = r1 ∧ l = [(4, (.bool x1))] ∧ Below w2.heap.size w2 w ∧ Ctx [] w0 w []) ?_ ?_
 ·refine W_reg ?_
  refine WL_field Tryz.underlying71 rfl rfl (fun w => ⟨_, Tryz.sizeOf22 w⟩) rfl rfl ?_
  refine WL_load_box hC2 1 rfl rfl Tryz.isAgg22 rfl rfl ?_
  obtain ⟨x2, hr2, hr1⟩ := bind_some hr1
  refine WL_call Tryz.call160 rfl rfl (c_M_ascending a1.2.1 u1 (g1.now hC2.keep) x2 hr2) ?_
  intro _ w4 hv1
  obtain ⟨rfl, hB4⟩ := res_bool hv1
  have hC4 := hC2.grow hB4
  refine WL_move rfl rfl ?_
  refine WL_fork (fun hc1 => ?_) (fun hc1 => ?_)
  ·replace hr1 := ite_t hr1 hc1
   refine WL_guard rfl rfl ?_
   refine WL_field Tryz.underlying71 rfl rfl (fun w => ⟨_, Tryz.sizeOf22 w⟩) rfl rfl ?_
   refine WL_guard rfl rfl ?_
   refine WL_load_box hC4 1 rfl rfl Tryz.isAgg22 rfl rfl ?_
   refine WL_guard rfl rfl ?_
   refine WL_makeFunc rfl rfl ?_
   obtain ⟨x3, hr3, hr1⟩ := bind_some hr1
   refine WL_guard rfl rfl ?_
   refine WL_call Tryz.call71 rfl rfl (c_Slices_ContainsFunc_Lint_int_M_Method_fits_c1 a1.2.1 u1 (g1.now hC4.keep) b2 a2 (hC4.boxAt 0 rfl repw_int) x3 hr3) ?_
   intro _ w5 hv2
   obtain ⟨rfl, hB5⟩ := res_bool hv2
   have hC5 := hC4.grow hB5
   refine WL_guard rfl rfl ?_
   refine WL_not rfl rfl ?_
   refine WL_pick_t rfl rfl rfl ?_
   refine WL_move rfl rfl ?_
   refine WL_fork (fun hc2 => ?_) (fun hc2 => ?_)
   ·replace hr1 := ite_t hr1 hc2
    refine WL_guard rfl rfl ?_
    refine WL_field Tryz.underlying71 rfl rfl (fun w => ⟨_, Tryz.sizeOf3 w⟩) rfl rfl ?_
    refine WL_guard rfl rfl ?_
    refine WL_load_box hC5 1 rfl rfl Tryz.isAgg3 rfl rfl ?_
    obtain ⟨x4, hr4, hr1⟩ := bind_some hr1
    refine WL_guard rfl rfl ?_
    refine WL_call Tryz.call78 rfl rfl (c_M_within a1.2.2.1 0 9 x4 hr4) ?_
    intro _ w6 hv3
    obtain ⟨rfl, hB6⟩ := res_bool hv3
    have hC6 := hC5.grow hB6
    refine WL_pick_t rfl rfl rfl ?_
    refine WL_move rfl rfl ?_
    refine WL_fork (fun hc3 => ?_) (fun hc3 => ?_)
    ·replace hr1 := ite_t hr1 hc3
     refine WL_guard rfl rfl ?_
     refine WL_field Tryz.underlying71 rfl rfl (fun w => ⟨_, Tryz.sizeOf3 w⟩) rfl rfl ?_
     refine WL_guard rfl rfl ?_
     refine WL_load_box hC6 1 rfl rfl Tryz.isAgg3 rfl rfl ?_
     obtain ⟨x5, hr5, hr1⟩ := bind_some hr1
     refine WL_guard rfl rfl ?_
     refine WL_call Tryz.call162 rfl rfl (c_M_isCost a1.2.2.2.1 x5 hr5) ?_
     intro _ w7 hv4
     obtain ⟨rfl, hB7⟩ := res_bool hv4
     have hC7 := hC6.grow hB7
     refine WL_pick_t rfl rfl rfl ?_
     refine WL_move rfl rfl ?_
     refine WL_fork (fun hc4 => ?_) (fun hc4 => ?_)
     ·replace hr1 := ite_t hr1 hc4
      refine WL_guard rfl rfl ?_
      refine WL_field Tryz.underlying71 rfl rfl (fun w => ⟨_, Tryz.sizeOf3 w⟩) rfl rfl ?_
      refine WL_guard rfl rfl ?_
      refine WL_load_box hC7 1 rfl rfl Tryz.isAgg3 rfl rfl ?_
      obtain ⟨x6, hr6, hr1⟩ := bind_some hr1
      refine WL_guard rfl rfl ?_
      refine WL_call Tryz.call78 rfl rfl (c_M_within a1.2.2.2.2 1 99 x6 hr6) ?_
      intro _ w9 hv5
      obtain ⟨rfl, hB8⟩ := res_bool hv5
      have hC8 := hC7.grow hB8
      refine WL_pick_t rfl rfl rfl ?_
      refine WL_assign rfl rfl ?_
      refine WL_nil ?_
      have hq1 := Option.some.inj hr1
      subst hq1
      have hC9 := hC8.h0
      refine nrm_sub (l' := [(4, (.bool x6))]) ⟨rfl, trivial⟩ ?_
      exact ⟨x6, rfl, rfl, (((((Keep.of hB4).then hB5).then hB6).then hB7).then hB8).below, hC9⟩
     replace hr1 := ite_f hr1 hc4
     refine WL_guard_skip rfl rfl (by simp) rfl ?_
     refine WL_guard_skip rfl rfl (by simp) rfl ?_
     refine WL_guard_skip rfl rfl (by simp) rfl ?_
     refine WL_pick_f rfl rfl rfl ?_
     refine WL_assign rfl rfl ?_
     refine WL_nil ?_
     have hq2 := Option.some.inj hr1
     subst hq2
     have hC10 := hC7.h0
     refine nrm_sub (l' := [(4, (.bool false))]) ⟨rfl, trivial⟩ ?_
     exact ⟨false, rfl, rfl, ((((Keep.of hB4).then hB5).then hB6).then hB7).below, hC10⟩
    replace hr1 := ite_f hr1 hc3
    refine WL_guard_skip rfl rfl (by simp) rfl ?_
    refine WL_guard_skip rfl rfl (by simp) rfl ?_
    refine WL_guard_skip rfl rfl (by simp) rfl ?_
    refine WL_pick_f rfl rfl rfl ?_
    refine WL_move rfl rfl ?_
    refine WL_guard_skip rfl rfl (by simp) rfl ?_
    refine WL_guard_skip rfl rfl (by simp) rfl ?_
    refine WL_guard_skip rfl rfl (by simp) rfl ?_
    refine WL_pick_f rfl rfl rfl ?_
    refine WL_assign rfl rfl ?_
    refine WL_nil ?_
    have hq3 := Option.some.inj hr1
    subst hq3
    have hC11 := hC6.h0
    refine nrm_sub (l' := [(4, (.bool false))]) ⟨rfl, trivial⟩ ?_
    exact ⟨false, rfl, rfl, (((Keep.of hB4).then hB5).then hB6).below, hC11⟩
   replace hr1 := ite_f hr1 hc2
   refine WL_guard_skip rfl rfl (by simp) rfl ?_
   refine WL_guard_skip rfl rfl (by simp) rfl ?_
   refine WL_guard_skip rfl rfl (by simp) rfl ?_
   refine WL_pick_f rfl rfl rfl ?_
   refine WL_move rfl rfl ?_
   refine WL_guard_skip rfl rfl (by simp) rfl ?_
   refine WL_guard_skip rfl rfl (by simp) rfl ?_
   refine WL_guard_skip rfl rfl (by simp) rfl ?_
   refine WL_pick_f rfl rfl rfl ?_
   refine WL_move rfl rfl ?_
   refine WL_guard_skip rfl rfl (by simp) rfl ?_
   refine WL_guard_skip rfl rfl (by simp) rfl ?_
   refine WL_guard_skip rfl rfl (by simp) rfl ?_
   refine WL_pick_f rfl rfl rfl ?_
   refine WL_assign rfl rfl ?_
   refine WL_nil ?_
   have hq4 := Option.some.inj hr1
   subst hq4
   have hC12 := hC5.h0
   refine nrm_sub (l' := [(4, (.bool false))]) ⟨rfl, trivial⟩ ?_
   exact ⟨false, rfl, rfl, ((Keep.of hB4).then hB5).below, hC12⟩
  replace hr1 := ite_f hr1 hc1
  refine WL_guard_skip rfl rfl (by simp) rfl ?_
  refine WL_guard_skip rfl rfl (by simp) rfl ?_
  refine WL_guard_skip rfl rfl (by simp) rfl ?_
  refine WL_guard_skip rfl rfl (by simp) rfl ?_
  refine WL_guard_skip rfl rfl (by simp) rfl ?_
  refine WL_pick_f rfl rfl rfl ?_
  refine WL_move rfl rfl ?_
  refine WL_guard_skip rfl rfl (by simp) rfl ?_
  refine WL_guard_skip rfl rfl (by simp) rfl ?_
  refine WL_guard_skip rfl rfl (by simp) rfl ?_
  refine WL_pick_f rfl rfl rfl ?_
  refine WL_move rfl rfl ?_
  refine WL_guard_skip rfl rfl (by simp) rfl ?_
  refine WL_guard_skip rfl rfl (by simp) rfl ?_
  refine WL_guard_skip rfl rfl (by simp) rfl ?_
  refine WL_pick_f rfl rfl rfl ?_
  refine WL_move rfl rfl ?_
  refine WL_guard_skip rfl rfl (by simp) rfl ?_
  refine WL_guard_skip rfl rfl (by simp) rfl ?_
  refine WL_guard_skip rfl rfl (by simp) rfl ?_
  refine WL_pick_f rfl rfl rfl ?_
  refine WL_assign rfl rfl ?_
  refine WL_nil ?_
  have hq5 := Option.some.inj hr1
  subst hq5
  have hC13 := hC4.h0
  refine nrm_sub (l' := [(4, (.bool false))]) ⟨rfl, trivial⟩ ?_
  exact ⟨false, rfl, rfl, (Keep.of hB4).below, hC13⟩
 rintro _ w3 ⟨x1, rfl, rfl, hB3, hC3⟩
 try dsimp only at hF
 refine W_ret ?_
 have hq6 := Option.some.inj hF
 subst hq6
 refine fn_ret1 rfl rfl ?_
 exact ⟨_, rfl, bool_res hC3 _⟩

theorem c_M_IsMethod {w0 : World} (a1 : (List Int)) (u1 : Value) (g1 : RO [] w0 u1 a1) (a2 : (Int × (List Int) × Int × Int × Int)) (u2 : Value) (g2 : RO [] w0 u2 a2.2.1) (rr : Bool) (hF : M.IsMethod a1 a2 = some rr) :
 Calls Tryz.prog 117 [u1, (.agg #[(.int .i64 a2.1), u2, (.int .i64 a2.2.2.1), (.int .i64 a2.2.2.2.1), (.int .i64 a2.2.2.2.2)])].toArray w0 fun e w' => ∃ v, e = .returned v ∧ Res w0 rr v w' := by
 refine calls_of_W Tryz.func117 rfl rfl ?_
 have hC0 := Ctx.start w0
 unfold M.IsMethod at hF
 refine W_seq_reg ?_
 refine WL_boxK (cs := [(.int .i64 a2.1), u2, (.int .i64 a2.2.2.1), (.int .i64 a2.2.2.2.1), (.int .i64 a2.2.2.2.2)]) hC0 rfl rfl rfl (fun b1 w1 hC1 hB1 hN1 => ?_)
 refine WL_assign rfl rfl ?_
 refine WL_nil ?_
 obtain ⟨r1, hr1, hF⟩ := bind_some hF
 refine W_cut (fun l w => ∃ x1 : Bool, x1 = r1 ∧ l = [(4, (.bool x1))] ∧ Below w1.heap.size w1 w ∧ Ctx [] w0 w []) ?_ ?_
 ·refine W_drawn 14 rfl hmix (fun w3 hB3 => ?_)
  have hC3 := hC1.grow hB3
  refine WA_tk 0 (by kernel_rfl) rfl rfl (fl_move rfl) ?_
  refine WL_move rfl rfl ?_
  refine WL_nil ?_
  refine WA_tk 1 (by kernel_rfl) rfl rfl (fl_field Tryz.underlying71 rfl rfl (fun w => ⟨_, Tryz.sizeOf3 w⟩) rfl) ?_
  refine WL_field Tryz.underlying71 rfl rfl (fun w => ⟨_, Tryz.sizeOf3 w⟩) rfl rfl ?_
  refine WL_nil ?_
  refine WA_one 2 (by kernel_rfl) rfl ?_
  refine WL_load_box hC3 0 rfl rfl Tryz.isAgg3 rfl rfl ?_
  refine WL_nil ?_
  obtain ⟨x2, hr2, hr1⟩ := bind_some hr1
  refine WA_one 3 (by kernel_rfl) rfl ?_
  refine WL_call Tryz.call146 rfl rfl (c_M_hasRel a1 u1 (g1.now hC3.keep) a2.1 x2 hr2) ?_
  intro _ w4 hv1
  obtain ⟨rfl, hB4⟩ := res_bool hv1
  have hC4 := hC3.grow hB4
  refine WL_nil ?_
  refine WA_tk 4 (by kernel_rfl) rfl rfl (fl_move rfl) ?_
  refine WL_move rfl rfl ?_
  refine WL_nil ?_
  refine WA_fork (fun hc1 => ?_) (fun hc1 => ?_)
  ·replace hr1 := ite_t hr1 hc1
   refine WA_takeG 6 rfl (by kernel_rfl) (by kernel_rfl) (by kernel_rfl) rfl rfl rfl (fl_move rfl) ?_
   refine WL_guard rfl rfl ?_
   refine WL_move rfl rfl ?_
   refine WL_nil ?_
   refine WA_takeG 7 rfl (by kernel_rfl) (by kernel_rfl) (by kernel_rfl) rfl rfl rfl (fl_field Tryz.underlying71 rfl rfl (fun w => ⟨_, Tryz.sizeOf3 w⟩) rfl) ?_
   refine WL_guard rfl rfl ?_
   refine WL_field Tryz.underlying71 rfl rfl (fun w => ⟨_, Tryz.sizeOf3 w⟩) rfl rfl ?_
   refine WL_nil ?_
   obtain ⟨x3, hx1, hr1⟩ := bind_some hr1
   refine WA.sub (l' := [(0, u1), (1, (.agg #[(.int .i64 a2.1), u2, (.int .i64 a2.2.2.1), (.int .i64 a2.2.2.2.1), (.int .i64 a2.2.2.2.2)])), (3, (ptr b1 0)), (4, (.bool false)), (5, u1), (6, (ptr b1 0)), (7, (.int .i64 a2.1)), (8, (.bool x2)), (9, (.bool true)), (11, u1), (12, (ptr b1 0))]) ?_ ⟨rfl, rfl, rfl, rfl, rfl, rfl, rfl, rfl, rfl, rfl, rfl, trivial⟩
   refine WA_postsE [⟨5, [], fun vs => PW.val (.agg #[(.int .i64 a2.1), u2, (.int .i64 a2.2.2.1), (.int .i64 a2.2.2.2.1), (.int .i64 a2.2.2.2.2)]), []⟩, ⟨8, [], fun vs => PW.val (.int .i64 a2.1), []⟩, ⟨9, [], fun vs => PW.at [] w0 x3, []⟩, ⟨10, [], fun vs => PW.val (.int .i64 x3), []⟩] [[], [], [8], [9]] 3 rfl (by kernel_rfl) (by kernel_rfl) rfl ?_ ?_
   ·refine StepsE_cons rfl ?_ ?_
    ·intro w5 hB5
     refine DepsE_nil ?_
     refine ⟨_, rfl, ?_⟩
     refine WL_guard rfl rfl ?_
     refine WL_load_box_agg [(.int .i64 a2.1), u2, (.int .i64 a2.2.2.1), (.int .i64 a2.2.2.2.1), (.int .i64 a2.2.2.2.2)] (hC4.grow hB5) 0 rfl rfl rfl Tryz.isAgg71 Tryz.sizeOf71 rfl rfl ?_
     refine WL_nil ?_
     exact FinE_val (Below.refl _ _) rfl rfl ⟨rfl, rfl⟩
    refine StepsE_cons rfl ?_ ?_
    ·intro w5 hB5
     refine DepsE_nil ?_
     refine ⟨_, rfl, ?_⟩
     refine WL_guard rfl rfl ?_
     refine WL_load_box (hC4.grow hB5) 0 rfl rfl Tryz.isAgg3 rfl rfl ?_
     refine WL_nil ?_
     exact FinE_val (Below.refl _ _) rfl rfl ⟨rfl, rfl⟩
    refine StepsE_cons rfl ?_ ?_
    ·intro w5 hB5
     refine DepsE_cons rfl rfl rfl ?_
     rintro _ _ ⟨rfl, rfl⟩ _
     refine DepsE_nil ?_
     refine ⟨_, rfl, ?_⟩
     refine WL_guard rfl rfl ?_
     refine WL_index Tryz.underlying22 ty3 g1 hx1 rfl rfl rfl (fun b2 o1 h1 => ?_)
     refine WL_nil ?_
     exact FinE_val (Below.refl _ _) rfl rfl ⟨rfl, _, _, rfl, h1⟩
    refine StepsE_cons rfl ?_ ?_
    ·intro w5 hB5
     refine DepsE_cons rfl rfl rfl ?_
     rintro _ _ ⟨rfl, b2, o1, rfl, h1⟩ _
     refine DepsE_nil ?_
     refine ⟨_, rfl, ?_⟩
     refine WL_guard rfl rfl ?_
     refine WL_load ty3 h1 (hC4.keep.then hB5) rfl rfl (fun v1 h2 => ?_)
     obtain rfl := ro_int h2
     refine WL_nil ?_
     exact FinE_val (Below.refl _ _) rfl rfl ⟨rfl, rfl⟩
    exact StepsE_nil
   intro w6 hB6
   refine AllE_cons rfl rfl rfl ?_
   rintro _ _ ⟨rfl, rfl⟩
   refine AllE_cons rfl rfl rfl ?_
   rintro _ _ ⟨rfl, rfl⟩
   refine AllE_cons rfl rfl rfl ?_
   rintro _ _ ⟨rfl, b2, o1, rfl, h1⟩
   refine AllE_cons rfl rfl rfl ?_
   rintro _ _ ⟨rfl, rfl⟩
   refine AllE_nil ?_
   intro hn1 hb1
   have hC5 := hC4.grow hB6
   obtain ⟨x4, hr3, hr1⟩ := bind_some hr1
   refine WA_one 11 (by kernel_rfl) rfl ?_
   refine WL_guard rfl rfl ?_
   refine WL_call Tryz.call147 rfl rfl (c_M_Method_fits (a2.1, a2.2.1, a2.2.2.1, a2.2.2.2.1, a2.2.2.2.2) u2 (g2.now hC5.keep) x3 x4 hr3) ?_
   intro _ w7 hv2
   obtain ⟨rfl, hB7⟩ := res_bool hv2
   have hC6 := hC5.grow hB7
   refine WL_nil ?_
   refine WA_tk 12 (by kernel_rfl) rfl rfl (fl_pick_t rfl rfl) ?_
   refine WL_pick_t rfl rfl rfl ?_
   refine WL_nil ?_
   refine WA_tk 13 (by kernel_rfl) rfl rfl (fl_assign rfl) ?_
   refine WL_assign rfl rfl ?_
   refine WL_nil ?_
   refine WA_done (by kernel_rfl) ?_
   have hq1 := Option.some.inj hr1
   subst hq1
   have hC7 := hC6.h0
   refine nrm_sub (l' := [(4, (.bool x4))]) ⟨rfl, trivial⟩ ?_
   exact ⟨x4, rfl, rfl, ((((Keep.of hB3).then hB4).then hB6).then hB7).below, hC7⟩
  replace hr1 := ite_f hr1 hc1
  refine WA_sk 5 (by kernel_rfl) rfl rfl rfl rfl (by simp) rfl rfl ?_
  refine WA_sk 6 (by kernel_rfl) rfl rfl rfl rfl (by simp) rfl rfl ?_
  refine WA_sk 7 (by kernel_rfl) rfl rfl rfl rfl (by simp) rfl rfl ?_
  refine WA_sk 8 (by kernel_rfl) rfl rfl rfl rfl (by simp) rfl rfl ?_
  refine WA_sk 9 (by kernel_rfl) rfl rfl rfl rfl (by simp) rfl rfl ?_
  refine WA_sk 10 (by kernel_rfl) rfl rfl rfl rfl (by simp) rfl rfl ?_
  refine WA_sk 11 (by kernel_rfl) rfl rfl rfl rfl (by simp) rfl rfl ?_
  refine WA_tk 12 (by kernel_rfl) rfl rfl (fl_pick_f rfl rfl) ?_
  refine WL_pick_f rfl rfl rfl ?_
  refine WL_nil ?_
  refine WA_tk 13 (by kernel_rfl) rfl rfl (fl_assign rfl) ?_
  refine WL_assign rfl rfl ?_
  refine WL_nil ?_
  refine WA_done (by kernel_rfl) ?_
  have hq2 := Option.some.inj hr1
  subst hq2
  have hC8 := hC4.h0
  refine nrm_sub (l' := [(4, (.bool false))]) ⟨rfl, trivial⟩ ?_
  exact ⟨false, rfl, rfl, ((Keep.of hB3).then hB4).below, hC8⟩
 rintro _ w2 ⟨x1, rfl, rfl, hB2, hC2⟩
 try dsimp only at hF
 refine W_ret ?_
 have hq3 := Option.some.inj hF
 subst hq3
 refine fn_ret1 rfl rfl ?_
 exact ⟨_, rfl, bool_res hC2 _⟩

theorem c_M_AreMethods_c1 {w0 : World} (a1 : (Int × (List Int) × Int × Int × Int)) (u1 : Value) (g1 : RO [] w0 u1 a1.2.1) (pb1 : Nat) (ax1 : (List Int)) (g2 : ROAt [] w0 pb1 0 ax1) (rr : Bool) (hF : M.AreMethods_c1 a1 ax1 = some rr) :
 Calls Tryz.prog 116 [(.agg #[(.int .i64 a1.1), u1, (.int .i64 a1.2.2.1), (.int .i64 a1.2.2.2.1), (.int .i64 a1.2.2.2.2)]), (ptr pb1 0)].toArray w0 fun e w' => ∃ v, e = .returned v ∧ Res w0 rr v w' := by
 refine calls_of_W Tryz.func116 rfl rfl ?_
 have hC0 := Ctx.start w0
 unfold M.AreMethods_c1 at hF
 refine W_seq_reg ?_
 refine WL_boxK (cs := [(.int .i64 a1.1), u1, (.int .i64 a1.2.2.1), (.int .i64 a1.2.2.2.1), (.int .i64 a1.2.2.2.2)]) hC0 rfl rfl rfl (fun b1 w1 hC1 hB1 hN1 => ?_)
 refine WL_assign rfl rfl ?_
 refine WL_nil (W_seq_reg ?_)
 refine WL_load ty22 g2 hC1.keep rfl rfl (fun v1 h1 => ?_)
 refine WL_load_box_agg [(.int .i64 a1.1), u1, (.int .i64 a1.2.2.1), (.int .i64 a1.2.2.2.1), (.int .i64 a1.2.2.2.2)] hC1 0 rfl rfl rfl Tryz.isAgg71 Tryz.sizeOf71 rfl rfl ?_
 obtain ⟨x1, hr1, hF⟩ := bind_some hF
 refine WL_call Tryz.call117 rfl rfl (c_M_IsMethod ax1 v1 (h1.now hC1.keep) (a1.1, a1.2.1, a1.2.2.1, a1.2.2.2.1, a1.2.2.2.2) u1 (g1.now hC1.keep) x1 hr1) ?_
 intro _ w2 hv1
 obtain ⟨rfl, hB2⟩ := res_bool hv1
 have hC2 := hC1.grow hB2
 refine WL_not rfl rfl ?_
 refine WL_assign rfl rfl ?_
 refine WL_nil (W_ret ?_)
 have hq1 := Option.some.inj hF
 subst hq1
 refine fn_ret1 rfl rfl ?_
 exact ⟨_, rfl, bool_res hC2 _⟩

theorem c_Slices_IndexFunc_Limpl_Method_impl_Method_M_AreMethods_c1 {w0 : World} (a1 : (List (Int × (List Int) × Int × Int × Int))) (u1 : Value) (g1 : RO [] w0 u1 a1) (pb1 : Nat) (ax1 : (List Int)) (g2 : ROAt [] w0 pb1 0 ax1) (rr : Int) (hF : Slices.IndexFunc_Limpl_Method_impl_Method_M_AreMethods_c1 a1 ax1 = some rr) :
 Calls Tryz.prog 123 [u1, (.func (.func 116) #[] #[(ptr pb1 0)])].toArray w0 fun e w' => ∃ v, e = .returned v ∧ Res w0 rr v w' := by
 refine calls_of_W Tryz.func123 rfl rfl ?_
 have hC0 := Ctx.start w0
 unfold Slices.IndexFunc_Limpl_Method_impl_Method_M_AreMethods_c1 at hF
 refine W_seq_reg ?_
 refine WL_assign rfl rfl ?_
 refine WL_nil (W_seq (W_seq_reg ?_))
 refine WL_move rfl rfl ?_
 refine WL_len Tryz.underlying33 g1 rfl rfl ?_
 refine WL_move rfl rfl ?_
 refine WL_nil ?_
 obtain ⟨r1, hr1, hF⟩ := bind_some hF
 refine W_norm (fun l w => .inl () = r1 ∧ l = [] ∧ Below w0.heap.size w0 w ∧ Ctx [] w0 w []) ?_ ?_
 ·refine W_block ?_
  refine W.sub (l' := [(0, u1), (1, (.func (.func 116) #[] #[(ptr pb1 0)])), (7, (.int .i64 (List.length a1 : Int))), (8, (.int .i64 0))]) ?_ ⟨rfl, rfl, rfl, rfl, trivial⟩
  refine W_loop (fun k l w => ∃ x1 : Int, l = [(0, u1), (1, (.func (.func 116) #[] #[(ptr pb1 0)])), (7, (.int .i64 (List.length a1 : Int))), (8, (.int .i64 x1))] ∧ Below w0.heap.size w0 w ∧ Ctx [] w0 w [] ∧ Slices.IndexFunc_Limpl_Method_impl_Method_M_AreMethods_c1_l1 a1 ax1 k x1 = some r1) FUEL ⟨0, rfl, (Below.refl _ _), hC0, hr1⟩ ?_
  clear hr1
  rintro k1 _ w1 ⟨x1, rfl, hB1, hC1, hL1⟩
  cases k1 with
  | zero => rw [Slices.IndexFunc_Limpl_Method_impl_Method_M_AreMethods_c1_l1] at hL1; cases hL1
  | succ k1 =>
   rw [Slices.IndexFunc_Limpl_Method_impl_Method_M_AreMethods_c1_l1] at hL1
   refine W_seq_reg ?_
   refine WL_lss rfl rfl rfl ?_
   refine WL_nil (W_seq ?_)
   refine W_cond rfl (fun hc1 => ?_) (fun hc1 => ?_)
   ·replace hL1 := ite_t hL1 hc1
    refine W_skip (nrm_normal (W_seq (W_block (W_seq_reg ?_))))
    refine WL_move rfl rfl ?_
    refine WL_assign rfl rfl ?_
    refine WL_nil (W_seq_reg ?_)
    refine WL_move rfl rfl ?_
    refine WL_move rfl rfl ?_
    refine WL_move rfl rfl ?_
    obtain ⟨x2, hx1, hL1⟩ := bind_some hL1
    refine WL_index Tryz.underlying33 ty71 g1 hx1 rfl rfl rfl (fun b1 o1 h1 => ?_)
    refine WL_load ty71 h1 hC1.keep rfl rfl (fun v1 h2 => ?_)
    obtain ⟨v2, rfl, h3⟩ := ro_st71 h2
    obtain ⟨x3, hr2, hL1⟩ := bind_some hL1
    refine WL_callv (cap := [(ptr pb1 0)]) Tryz.call116 rfl rfl rfl (c_M_AreMethods_c1 x2 v2 (h3.now hC1.keep) pb1 ax1 (g2.now hC1.keep) x3 hr2) ?_
    intro _ w2 hv1
    obtain ⟨rfl, hB2⟩ := res_bool hv1
    have hC2 := hC1.grow hB2
    refine WL_nil ?_
    refine W_cond rfl (fun hc2 => ?_) (fun hc2 => ?_)
    ·replace hL1 := ite_t hL1 hc2
     refine W_seq_reg ?_
     refine WL_move rfl rfl ?_
     refine WL_assign rfl rfl ?_
     refine WL_nil (W_ret (blk_ret (nrm_ret (nrm_ret (blk_ret (nrm_ret (nrm_ret ?_)))))))
     have hq1 := Option.some.inj hL1
     subst hq1
     dsimp only at hF
     have hq2 := Option.some.inj hF
     subst hq2
     refine fn_ret1 rfl rfl ?_
     exact ⟨_, rfl, int_res hC2 _⟩
    replace hL1 := ite_f hL1 hc2
    refine W_skip (blk_normal (nrm_normal (W_reg ?_)))
    refine WL_add rfl rfl rfl ?_
    refine WL_move rfl rfl ?_
    refine WL_nil ?_
    refine nrm_sub (l' := [(0, u1), (1, (.func (.func 116) #[] #[(ptr pb1 0)])), (7, (.int .i64 (List.length a1 : Int))), (8, (.int .i64 (w64 (x1 + 1))))]) ⟨rfl, rfl, rfl, rfl, trivial⟩ ?_
    exact ⟨k1, Nat.lt_succ_self _, w64 (x1 + 1), rfl, ((Keep.of hB1).then hB2).below, hC2, hL1⟩
   replace hL1 := ite_f hL1 hc1
   refine W_exit (nrm_exit (nrm_exit (blk_exit ?_)))
   have hq3 := Option.some.inj hL1
   subst hq3
   refine nrm_sub (l' := []) trivial ?_
   exact ⟨rfl, rfl, (Keep.of hB1).below, hC1⟩
 rintro l2 _ w3 hs2 ⟨rfl, rfl, hB3, hC3⟩
 try dsimp only at hF
 refine nrm_sub' hs2 ?_
 clear hs2
 refine W_seq_reg ?_
 refine WL_assign rfl rfl ?_
 refine WL_nil (W_ret ?_)
 have hq4 := Option.some.inj hF
 subst hq4
 refine fn_ret1 rfl rfl ?_
 exact ⟨_, rfl, int_res hC3 _⟩

theorem c_Slices_ContainsFunc_Limpl_Method_impl_Method_M_AreMethods_c1 {w0 : World} (a1 : (List (Int × (List Int) × Int × Int × Int))) (u1 : Value) (g1 : RO [] w0 u1 a1) (pb1 : Nat) (ax1 : (List Int)) (g2 : ROAt [] w0 pb1 0 ax1) (rr : Bool) (hF : Slices.ContainsFunc_Limpl_Method_impl_Method_M_AreMethods_c1 a1 ax1 = some rr) :
 Calls Tryz.prog 115 [u1, (.func (.func 116) #[] #[(ptr pb1 0)])].toArray w0 fun e w' => ∃ v, e = .returned v ∧ Res w0 rr v w' := by
 refine calls_of_W Tryz.func115 rfl rfl ?_
 have hC0 := Ctx.start w0
 unfold Slices.ContainsFunc_Limpl_Method_impl_Method_M_AreMethods_c1 at hF
 refine W_seq_reg ?_
 refine WL_assign rfl rfl ?_
 refine WL_nil (W_seq_reg ?_)
 refine WL_move rfl rfl ?_
 refine WL_move rfl rfl ?_
 obtain ⟨x1, hr1, hF⟩ := bind_some hF
 refine WL_call Tryz.call123 rfl rfl (c_Slices_IndexFunc_Limpl_Method_impl_Method_M_AreMethods_c1 a1 u1 (g1.now hC0.keep) pb1 ax1 (g2.now hC0.keep) x1 hr1) ?_
 intro _ w1 hv1
 obtain ⟨rfl, hB1⟩ := res_int hv1
 have hC1 := hC0.grow hB1
 refine WL_geq rfl rfl rfl ?_
 refine WL_assign rfl rfl ?_
 refine WL_nil (W_ret ?_)
 have hq1 := Option.some.inj hF
 subst hq1
 refine fn_ret1 rfl rfl ?_
 exact ⟨_, rfl, bool_res hC1 _⟩

theorem c_M_AreMethods {w0 : World} (a1 : (List Int)) (u1 : Value) (g1 : RO [] w0 u1 a1) (a2 : (List (Int × (List Int) × Int × Int × Int))) (u2 : Value) (g2 : RO [] w0 u2 a2) (rr : Bool) (hF : M.AreMethods a1 a2 = some rr) :
 Calls Tryz.prog 92 [u1, u2].toArray w0 fun e w' => ∃ v, e = .returned v ∧ Res w0 rr v w' := by
 refine calls_of_W Tryz.func92 rfl rfl ?_
 have hC0 := Ctx.start w0
 unfold M.AreMethods at hF
 refine W_seq_reg ?_
 refine WL_boxK (cs := [u1]) hC0 (ro_cells g1) rfl rfl (fun b1 w1 hC1 hB1 hN1 => ?_)
 refine WL_assign rfl rfl ?_
 refine WL_nil ?_
 obtain ⟨r1, hr1, hF⟩ := bind_some hF
 refine W_cut (fun l w => ∃ x1 : Bool, x1 = r1 ∧ l = [(4, (.bool x1))] ∧ Below w1.heap.size w1 w ∧ Ctx [] w0 w []) ?_ ?_
 ·refine W_reg ?_
  refine WL_load_box hC1 0 rfl rfl Tryz.isAgg22 rfl rfl ?_
  obtain ⟨x2, hr2, hr1⟩ := bind_some hr1
  refine WL_call Tryz.call114 rfl rfl (c_M_IsSchema a1 u1 (g1.now hC1.keep) x2 hr2) ?_
  intro _ w3 hv1
  obtain ⟨rfl, hB3⟩ := res_bool hv1
  have hC3 := hC1.grow hB3
  refine WL_move rfl rfl ?_
  refine WL_fork (fun hc1 => ?_) (fun hc1 => ?_)
  ·replace hr1 := ite_t hr1 hc1
   refine WL_guard rfl rfl ?_
   refine WL_move rfl rfl ?_
   refine WL_guard rfl rfl ?_
   refine WL_len Tryz.underlying33 g2 rfl rfl ?_
   refine WL_guard rfl rfl ?_
   refine WL_leq rfl rfl rfl ?_
   refine WL_pick_t rfl rfl rfl ?_
   refine WL_move rfl rfl ?_
   refine WL_fork (fun hc2 => ?_) (fun hc2 => ?_)
   ·replace hr1 := ite_t hr1 hc2
    refine WL_guard rfl rfl ?_
    refine WL_move rfl rfl ?_
    refine WL_guard rfl rfl ?_
    refine WL_makeFunc rfl rfl ?_
    obtain ⟨x3, hr3, hr1⟩ := bind_some hr1
    refine WL_guard rfl rfl ?_
    refine WL_call Tryz.call115 rfl rfl (c_Slices_ContainsFunc_Limpl_Method_impl_Method_M_AreMethods_c1 a2 u2 (g2.now hC3.keep) b1 a1 (hC3.boxAt 0 rfl (repw_slice (g1.now hC3.keep))) x3 hr3) ?_
    intro _ w4 hv2
    obtain ⟨rfl, hB4⟩ := res_bool hv2
    have hC4 := hC3.grow hB4
    refine WL_guard rfl rfl ?_
    refine WL_not rfl rfl ?_
    refine WL_pick_t rfl rfl rfl ?_
    refine WL_assign rfl rfl ?_
    refine WL_nil ?_
    have hq1 := Option.some.inj hr1
    subst hq1
    have hC5 := hC4.h0
    refine nrm_sub (l' := [(4, (.bool (!x3)))]) ⟨rfl, trivial⟩ ?_
    exact ⟨(!x3), rfl, rfl, ((Keep.of hB3).then hB4).below, hC5⟩
   replace hr1 := ite_f hr1 hc2
   refine WL_guard_skip rfl rfl (by simp) rfl ?_
   refine WL_guard_skip rfl rfl (by simp) rfl ?_
   refine WL_guard_skip rfl rfl (by simp) rfl ?_
   refine WL_guard_skip rfl rfl (by simp) rfl ?_
   refine WL_pick_f rfl rfl rfl ?_
   refine WL_assign rfl rfl ?_
   refine WL_nil ?_
   have hq2 := Option.some.inj hr1
   subst hq2
   have hC6 := hC3.h0
   refine nrm_sub (l' := [(4, (.bool false))]) ⟨rfl, trivial⟩ ?_
   exact ⟨false, rfl, rfl, (Keep.of hB3).below, hC6⟩
  replace hr1 := ite_f hr1 hc1
  refine WL_guard_skip rfl rfl (by simp) rfl ?_
  refine WL_guard_skip rfl rfl (by simp) rfl ?_
  refine WL_guard_skip rfl rfl (by simp) rfl ?_
  refine WL_pick_f rfl rfl rfl ?_
  refine WL_move rfl rfl ?_
  refine WL_guard_skip rfl rfl (by simp) rfl ?_
  refine WL_guard_skip rfl rfl (by simp) rfl ?_
  refine WL_guard_skip rfl rfl (by simp) rfl ?_
  refine WL_guard_skip rfl rfl (by simp) rfl ?_
  refine WL_pick_f rfl rfl rfl ?_
  refine WL_assign rfl rfl ?_
  refine WL_nil ?_
  have hq3 := Option.some.inj hr1
  subst hq3
  have hC7 := hC3.h0
  refine nrm_sub (l' := [(4, (.bool false))]) ⟨rfl, trivial⟩ ?_
  exact ⟨false, rfl, rfl, (Keep.of hB3).below, hC7⟩
 rintro _ w2 ⟨x1, rfl, rfl, hB2, hC2⟩
 try dsimp only at hF
 refine W_ret ?_
 have hq4 := Option.some.inj hF
 subst hq4
 refine fn_ret1 rfl rfl ?_
 exact ⟨_, rfl, bool_res hC2 _⟩

theorem c_M_isValue {w0 : World} (a1 : Int) (rr : Bool) (hF : M.isValue a1 = some rr) :
 Calls Tryz.prog 98 [(.int .i64 a1)].toArray w0 fun e w' => ∃ v, e = .returned v ∧ Res w0 rr v w' := by
 refine calls_of_W Tryz.func98 rfl rfl ?_
 have hC0 := Ctx.start w0
 unfold M.isValue at hF
 refine W_seq_reg ?_
 refine WL_assign rfl rfl ?_
 refine WL_nil (W_seq_reg ?_)
 refine WL_move rfl rfl ?_
 obtain ⟨x1, hr1, hF⟩ := bind_some hF
 refine WL_call Tryz.call78 rfl rfl (c_M_within a1 0 9 x1 hr1) ?_
 intro _ w1 hv1
 obtain ⟨rfl, hB1⟩ := res_bool hv1
 have hC1 := hC0.grow hB1
 refine WL_assign rfl rfl ?_
 refine WL_nil (W_ret ?_)
 have hq1 := Option.some.inj hF
 subst hq1
 refine fn_ret1 rfl rfl ?_
 exact ⟨_, rfl, bool_res hC1 _⟩

theorem c_M_IsVar {w0 : World} (a1 : Int) (rr : Bool) (hF : M.IsVar a1 = some rr) :
 Calls Tryz.prog 109 [(.int .i64 a1)].toArray w0 fun e w' => ∃ v, e = .returned v ∧ Res w0 rr v w' := by
 refine calls_of_W Tryz.func109 rfl rfl ?_
 have hC0 := Ctx.start w0
 unfold M.IsVar at hF
 refine W_seq_reg ?_
 refine WL_assign rfl rfl ?_
 refine WL_nil (W_seq_reg ?_)
 refine WL_move rfl rfl ?_
 obtain ⟨x1, hr1, hF⟩ := bind_some hF
 refine WL_call Tryz.call78 rfl rfl (c_M_within a1 10 17 x1 hr1) ?_
 intro _ w1 hv1
 obtain ⟨rfl, hB1⟩ := res_bool hv1
 have hC1 := hC0.grow hB1
 refine WL_assign rfl rfl ?_
 refine WL_nil (W_ret ?_)
 have hq1 := Option.some.inj hF
 subst hq1
 refine fn_ret1 rfl rfl ?_
 exact ⟨_, rfl, bool_res hC1 _⟩

theorem c_M_IsTerm {w0 : World} (a1 : Int) (rr : Bool) (hF : M.IsTerm a1 = some rr) :
 Calls Tryz.prog 164 [(.int .i64 a1)].toArray w0 fun e w' => ∃ v, e = .returned v ∧ Res w0 rr v w' := by
 refine calls_of_W Tryz.func164 rfl rfl ?_
 have hC0 := Ctx.start w0
 unfold M.IsTerm at hF
 refine W_seq_reg ?_
 refine WL_assign rfl rfl ?_
 refine WL_nil ?_
 obtain ⟨r1, hr1, hF⟩ := bind_some hF
 refine W_cut (fun l w => ∃ x1 : Bool, x1 = r1 ∧ l = [(2, (.bool x1))] ∧ Below w0.heap.size w0 w ∧ Ctx [] w0 w []) ?_ ?_
 ·refine W_reg ?_
  refine WL_move rfl rfl ?_
  obtain ⟨x2, hr2, hr1⟩ := bind_some hr1
  refine WL_call Tryz.call98 rfl rfl (c_M_isValue a1 x2 hr2) ?_
  intro _ w2 hv1
  obtain ⟨rfl, hB2⟩ := res_bool hv1
  have hC2 := hC0.grow hB2
  refine WL_move rfl rfl ?_
  refine WL_fork (fun hc1 => ?_) (fun hc1 => ?_)
  ·replace hr1 := ite_t hr1 hc1
   refine WL_guard_skip rfl rfl (by simp) rfl ?_
   refine WL_guard_skip rfl rfl (by simp) rfl ?_
   refine WL_pick_t rfl rfl rfl ?_
   refine WL_assign rfl rfl ?_
   refine WL_nil ?_
   have hq1 := Option.some.inj hr1
   subst hq1
   refine nrm_sub (l' := [(2, (.bool true))]) ⟨rfl, trivial⟩ ?_
   exact ⟨true, rfl, rfl, (Keep.of hB2).below, hC2⟩
  replace hr1 := ite_f hr1 hc1
  refine WL_guard rfl rfl ?_
  refine WL_move rfl rfl ?_
  obtain ⟨x3, hr3, hr1⟩ := bind_some hr1
  refine WL_guard rfl rfl ?_
  refine WL_call Tryz.call109 rfl rfl (c_M_IsVar a1 x3 hr3) ?_
  intro _ w3 hv2
  obtain ⟨rfl, hB3⟩ := res_bool hv2
  have hC3 := hC2.grow hB3
  refine WL_pick_f rfl rfl rfl ?_
  refine WL_assign rfl rfl ?_
  refine WL_nil ?_
  have hq2 := Option.some.inj hr1
  subst hq2
  refine nrm_sub (l' := [(2, (.bool x3))]) ⟨rfl, trivial⟩ ?_
  exact ⟨x3, rfl, rfl, ((Keep.of hB2).then hB3).below, hC3⟩
 rintro _ w1 ⟨x1, rfl, rfl, hB1, hC1⟩
 try dsimp only at hF
 refine W_ret ?_
 have hq3 := Option.some.inj hF
 subst hq3
 refine fn_ret1 rfl rfl ?_
 exact ⟨_, rfl, bool_res hC1 _⟩

theorem c_M_areTerms_c1 {w0 : World} (a1 : Int) (rr : Bool) (hF : M.areTerms_c1 a1 = some rr) :
 Calls Tryz.prog 163 [(.int .i64 a1)].toArray w0 fun e w' => ∃ v, e = .returned v ∧ Res w0 rr v w' := by
 refine calls_of_W Tryz.func163 rfl rfl ?_
 have hC0 := Ctx.start w0
 unfold M.areTerms_c1 at hF
 refine W_seq_reg ?_
 refine WL_assign rfl rfl ?_
 refine WL_nil (W_seq_reg ?_)
 refine WL_move rfl rfl ?_
 obtain ⟨x1, hr1, hF⟩ := bind_some hF
 refine WL_call Tryz.call164 rfl rfl (c_M_IsTerm a1 x1 hr1) ?_
 intro _ w1 hv1
 obtain ⟨rfl, hB1⟩ := res_bool hv1
 have hC1 := hC0.grow hB1
 refine WL_not rfl rfl ?_
 refine WL_assign rfl rfl ?_
 refine WL_nil (W_ret ?_)
 have hq1 := Option.some.inj hF
 subst hq1
 refine fn_ret1 rfl rfl ?_
 exact ⟨_, rfl, bool_res hC1 _⟩

theorem c_Slices_IndexFunc_Lint_int_M_areTerms_c1 {w0 : World} (a1 : (List Int)) (u1 : Value) (g1 : RO [] w0 u1 a1) (rr : Int) (hF : Slices.IndexFunc_Lint_int_M_areTerms_c1 a1 = some rr) :
 Calls Tryz.prog 99 [u1, (.func (.func 163) #[] #[])].toArray w0 fun e w' => ∃ v, e = .returned v ∧ Res w0 rr v w' := by
 refine calls_of_W Tryz.func99 rfl rfl ?_
 have hC0 := Ctx.start w0
 unfold Slices.IndexFunc_Lint_int_M_areTerms_c1 at hF
 refine W_seq_reg ?_
 refine WL_assign rfl rfl ?_
 refine WL_nil (W_seq (W_seq_reg ?_))
 refine WL_move rfl rfl ?_
 refine WL_len Tryz.underlying22 g1 rfl rfl ?_
 refine WL_move rfl rfl ?_
 refine WL_nil ?_
 obtain ⟨r1, hr1, hF⟩ := bind_some hF
 refine W_norm (fun l w => .inl () = r1 ∧ l = [] ∧ Below w0.heap.size w0 w ∧ Ctx [] w0 w []) ?_ ?_
 ·refine W_block ?_
  refine W.sub (l' := [(0, u1), (1, (.func (.func 163) #[] #[])), (7, (.int .i64 (List.length a1 : Int))), (8, (.int .i64 0))]) ?_ ⟨rfl, rfl, rfl, rfl, trivial⟩
  refine W_loop (fun k l w => ∃ x1 : Int, l = [(0, u1), (1, (.func (.func 163) #[] #[])), (7, (.int .i64 (List.length a1 : Int))), (8, (.int .i64 x1))] ∧ Below w0.heap.size w0 w ∧ Ctx [] w0 w [] ∧ Slices.IndexFunc_Lint_int_M_areTerms_c1_l1 a1 k x1 = some r1) FUEL ⟨0, rfl, (Below.refl _ _), hC0, hr1⟩ ?_
  clear hr1
  rintro k1 _ w1 ⟨x1, rfl, hB1, hC1, hL1⟩
  cases k1 with
  | zero => rw [Slices.IndexFunc_Lint_int_M_areTerms_c1_l1] at hL1; cases hL1
  | succ k1 =>
   rw [Slices.IndexFunc_Lint_int_M_areTerms_c1_l1] at hL1
   refine W_seq_reg ?_
   refine WL_lss rfl rfl rfl ?_
   refine WL_nil (W_seq ?_)
   refine W_cond rfl (fun hc1 => ?_) (fun hc1 => ?_)
   ·replace hL1 := ite_t hL1 hc1
    refine W_skip (nrm_normal (W_seq (W_block (W_seq_reg ?_))))
    refine WL_move rfl rfl ?_
    refine WL_assign rfl rfl ?_
    refine WL_nil (W_seq_reg ?_)
    refine WL_move rfl rfl ?_
    refine WL_move rfl rfl ?_
    refine WL_move rfl rfl ?_
    obtain ⟨x2, hx1, hL1⟩ := bind_some hL1
    refine WL_index Tryz.underlying22 ty3 g1 hx1 rfl rfl rfl (fun b1 o1 h1 => ?_)
    refine WL_load ty3 h1 hC1.keep rfl rfl (fun v1 h2 => ?_)
    obtain rfl := ro_int h2
    obtain ⟨x3, hr2, hL1⟩ := bind_some hL1
    refine WL_callv (cap := []) Tryz.call163 rfl rfl rfl (c_M_areTerms_c1 x2 x3 hr2) ?_
    intro _ w2 hv1
    obtain ⟨rfl, hB2⟩ := res_bool hv1
    have hC2 := hC1.grow hB2
    refine WL_nil ?_
    refine W_cond rfl (fun hc2 => ?_) (fun hc2 => ?_)
    ·replace hL1 := ite_t hL1 hc2
     refine W_seq_reg ?_
     refine WL_move rfl rfl ?_
     refine WL_assign rfl rfl ?_
     refine WL_nil (W_ret (blk_ret (nrm_ret (nrm_ret (blk_ret (nrm_ret (nrm_ret ?_)))))))
     have hq1 := Option.some.inj hL1
     subst hq1
     dsimp only at hF
     have hq2 := Option.some.inj hF
     subst hq2
     refine fn_ret1 rfl rfl ?_
     exact ⟨_, rfl, int_res hC2 _⟩
    replace hL1 := ite_f hL1 hc2
    refine W_skip (blk_normal (nrm_normal (W_reg ?_)))
    refine WL_add rfl rfl rfl ?_
    refine WL_move rfl rfl ?_
    refine WL_nil ?_
    refine nrm_sub (l' := [(0, u1), (1, (.func (.func 163) #[] #[])), (7, (.int .i64 (List.length a1 : Int))), (8, (.int .i64 (w64 (x1 + 1))))]) ⟨rfl, rfl, rfl, rfl, trivial⟩ ?_
    exact ⟨k1, Nat.lt_succ_self _, w64 (x1 + 1), rfl, ((Keep.of hB1).then hB2).below, hC2, hL1⟩
   replace hL1 := ite_f hL1 hc1
   refine W_exit (nrm_exit (nrm_exit (blk_exit ?_)))
   have hq3 := Option.some.inj hL1
   subst hq3
   refine nrm_sub (l' := []) trivial ?_
   exact ⟨rfl, rfl, (Keep.of hB1).below, hC1⟩
 rintro l2 _ w3 hs2 ⟨rfl, rfl, hB3, hC3⟩
 try dsimp only at hF
 refine nrm_sub' hs2 ?_
 clear hs2
 refine W_seq_reg ?_
 refine WL_assign rfl rfl ?_
 refine WL_nil (W_ret ?_)
 have hq4 := Option.some.inj hF
 subst hq4
 refine fn_ret1 rfl rfl ?_
 exact ⟨_, rfl, int_res hC3 _⟩

theorem c_Slices_ContainsFunc_Lint_int_M_areTerms_c1 {w0 : World} (a1 : (List Int)) (u1 : Value) (g1 : RO [] w0 u1 a1) (rr : Bool) (hF : Slices.ContainsFunc_Lint_int_M_areTerms_c1 a1 = some rr) :
 Calls Tryz.prog 71 [u1, (.func (.func 163) #[] #[])].toArray w0 fun e w' => ∃ v, e = .returned v ∧ Res w0 rr v w' := by
 refine calls_of_W Tryz.func71 rfl rfl ?_
 have hC0 := Ctx.start w0
 unfold Slices.ContainsFunc_Lint_int_M_areTerms_c1 at hF
 refine W_seq_reg ?_
 refine WL_assign rfl rfl ?_
 refine WL_nil (W_seq_reg ?_)
 refine WL_move rfl rfl ?_
 refine WL_move rfl rfl ?_
 obtain ⟨x1, hr1, hF⟩ := bind_some hF
 refine WL_call Tryz.call99 rfl rfl (c_Slices_IndexFunc_Lint_int_M_areTerms_c1 a1 u1 (g1.now hC0.keep) x1 hr1) ?_
 intro _ w1 hv1
 obtain ⟨rfl, hB1⟩ := res_int hv1
 have hC1 := hC0.grow hB1
 refine WL_geq rfl rfl rfl ?_
 refine WL_assign rfl rfl ?_
 refine WL_nil (W_ret ?_)
 have hq1 := Option.some.inj hF
 subst hq1
 refine fn_ret1 rfl rfl ?_
 exact ⟨_, rfl, bool_res hC1 _⟩

theorem c_M_areTerms {w0 : World} (a1 : (List Int)) (u1 : Value) (g1 : RO [] w0 u1 a1) (rr : Bool) (hF : M.areTerms a1 = some rr) :
 Calls Tryz.prog 149 [u1].toArray w0 fun e w' => ∃ v, e = .returned v ∧ Res w0 rr v w' := by
 refine calls_of_W Tryz.func149 rfl rfl ?_
 have hC0 := Ctx.start w0
 unfold M.areTerms at hF
 refine W_seq_reg ?_
 refine WL_assign rfl rfl ?_
 refine WL_nil (W_seq_reg ?_)
 refine WL_move rfl rfl ?_
 obtain ⟨x1, hr1, hF⟩ := bind_some hF
 refine WL_call Tryz.call71 rfl rfl (c_Slices_ContainsFunc_Lint_int_M_areTerms_c1 a1 u1 (g1.now hC0.keep) x1 hr1) ?_
 intro _ w1 hv1
 obtain ⟨rfl, hB1⟩ := res_bool hv1
 have hC1 := hC0.grow hB1
 refine WL_not rfl rfl ?_
 refine WL_assign rfl rfl ?_
 refine WL_nil (W_ret ?_)
 have hq1 := Option.some.inj hF
 subst hq1
 refine fn_ret1 rfl rfl ?_
 exact ⟨_, rfl, bool_res hC1 _⟩

end Go.Gx.Px
