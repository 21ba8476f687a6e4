/- The contracts of the Go functions against the pure functions, printed by program. Conditions: each says them. -/
import Derived.Test.YtnjjpmilcajmkaaC1
set_option linter.unusedVariables false
set_option linter.unusedSimpArgs false
set_option maxRecDepth 100000
namespace Go.Gx.Px
open Go.Proofs Go.RowKit

theorem c_S_IsFact {w0 : World} (a1 : (List Int)) (u1 : Value) (g1 : RO [] w0 u1 a1) (a2 : (Int × (List Int))) (u2 : Value) (g2 : RO [] w0 u2 a2.2) (rr : Bool) (hF : S.IsFact a1 a2 = some rr) :
    Calls Try.prog 144 [u1, (.agg #[(.int .i64 a2.1), u2])].toArray w0 fun e w' => ∃ v, e = .returned v ∧ Res w0 rr v w' := by
  refine calls_of_W Try.func144 rfl rfl ?_
  have hC0 := Ctx.start w0
  unfold S.IsFact at hF
  refine W_seq_reg ?_
  refine WL_box (cs := [(.int .i64 a2.1), u2]) hC0 rfl rfl rfl (fun b1 w1 hC1 hB1 => ?_)
  refine WL_assign rfl rfl ?_
  refine WL_nil ?_
  refine W_seq ?_
  obtain ⟨r1, hr1, hF⟩ := bind_some hF
  refine W_cut (fun l w => ∃ x1 : Bool, x1 = r1 ∧ l = [(3, (ptr b1 0)), (28, (.bool x1))] ∧ Below w1.heap.size w1 w ∧ Ctx [] w0 w [Item.box b1 [(.int .i64 a2.1), u2]]) ?_ ?_
  · refine W_drawn 23 rfl hmix (fun w3 hB3 => ?_)
    have hC3 := hC1.grow hB3
    refine WA_take 0 rfl (by kernel_rfl) (by kernel_rfl) (by kernel_rfl) rfl (fl_move rfl) ?_
    refine WL_move rfl rfl ?_
    refine WL_nil ?_
    obtain ⟨x2, hr2, hr1⟩ := bind_some hr1
    refine WA_one 1 (by kernel_rfl) rfl ?_
    refine WL_call Try.call146 rfl rfl (c_S_IsSchema a1 u1 (g1.now hC3.keep) x2 hr2) ?_
    intro _ w4 hv1
    obtain ⟨rfl, hB4⟩ := res_bool hv1
    have hC4 := hC3.grow hB4
    refine WL_nil ?_
    refine WA_take 2 rfl (by kernel_rfl) (by kernel_rfl) (by kernel_rfl) rfl (fl_not rfl) ?_
    refine WL_not rfl rfl ?_
    refine WL_nil ?_
    refine WA_take 3 rfl (by kernel_rfl) (by kernel_rfl) (by kernel_rfl) rfl (fl_move rfl) ?_
    refine WL_move rfl rfl ?_
    refine WL_nil ?_
    refine WA_fork (fun hc1 => ?_) (fun hc1 => ?_)
    · replace hr1 := ite_t hr1 hc1
      refine WA_skip 4 rfl (by kernel_rfl) (by kernel_rfl) (by kernel_rfl) rfl rfl rfl (by simp) rfl rfl ?_
      refine WA_skip 5 rfl (by kernel_rfl) (by kernel_rfl) (by kernel_rfl) rfl rfl rfl (by simp) rfl rfl ?_
      refine WA_skip 6 rfl (by kernel_rfl) (by kernel_rfl) (by kernel_rfl) rfl rfl rfl (by simp) rfl rfl ?_
      refine WA_skip 7 rfl (by kernel_rfl) (by kernel_rfl) (by kernel_rfl) rfl rfl rfl (by simp) rfl rfl ?_
      refine WA_skip 8 rfl (by kernel_rfl) (by kernel_rfl) (by kernel_rfl) rfl rfl rfl (by simp) rfl rfl ?_
      refine WA_skip 9 rfl (by kernel_rfl) (by kernel_rfl) (by kernel_rfl) rfl rfl rfl (by simp) rfl rfl ?_
      refine WA_skip 10 rfl (by kernel_rfl) (by kernel_rfl) (by kernel_rfl) rfl rfl rfl (by simp) rfl rfl ?_
      refine WA_take 11 rfl (by kernel_rfl) (by kernel_rfl) (by kernel_rfl) rfl (fl_pick_t rfl rfl) ?_
      refine WL_pick_t rfl rfl rfl ?_
      refine WL_nil ?_
      refine WA_take 12 rfl (by kernel_rfl) (by kernel_rfl) (by kernel_rfl) rfl (fl_move rfl) ?_
      refine WL_move rfl rfl ?_
      refine WL_nil ?_
      refine WA_skip 13 rfl (by kernel_rfl) (by kernel_rfl) (by kernel_rfl) rfl rfl rfl (by simp) rfl rfl ?_
      refine WA_skip 14 rfl (by kernel_rfl) (by kernel_rfl) (by kernel_rfl) rfl rfl rfl (by simp) rfl rfl ?_
      refine WA_skip 15 rfl (by kernel_rfl) (by kernel_rfl) (by kernel_rfl) rfl rfl rfl (by simp) rfl rfl ?_
      refine WA_skip 16 rfl (by kernel_rfl) (by kernel_rfl) (by kernel_rfl) rfl rfl rfl (by simp) rfl rfl ?_
      refine WA_skip 17 rfl (by kernel_rfl) (by kernel_rfl) (by kernel_rfl) rfl rfl rfl (by simp) rfl rfl ?_
      refine WA_skip 18 rfl (by kernel_rfl) (by kernel_rfl) (by kernel_rfl) rfl rfl rfl (by simp) rfl rfl ?_
      refine WA_skip 19 rfl (by kernel_rfl) (by kernel_rfl) (by kernel_rfl) rfl rfl rfl (by simp) rfl rfl ?_
      refine WA_skip 20 rfl (by kernel_rfl) (by kernel_rfl) (by kernel_rfl) rfl rfl rfl (by simp) rfl rfl ?_
      refine WA_skip 21 rfl (by kernel_rfl) (by kernel_rfl) (by kernel_rfl) rfl rfl rfl (by simp) rfl rfl ?_
      refine WA_take 22 rfl (by kernel_rfl) (by kernel_rfl) (by kernel_rfl) rfl (fl_pick_t rfl rfl) ?_
      refine WL_pick_t rfl rfl rfl ?_
      refine WL_nil ?_
      refine WA_done (by kernel_rfl) ?_
      have hq1 := Option.some.inj hr1
      subst hq1
      refine nrm_sub (l' := [(3, (ptr b1 0)), (28, (.bool true))]) ⟨rfl, rfl, trivial⟩ ?_
      exact ⟨true, rfl, rfl, ((Keep.of hB3).then hB4).below, hC4⟩
    · replace hr1 := ite_f hr1 hc1
      refine WA_takeG 4 rfl (by kernel_rfl) (by kernel_rfl) (by kernel_rfl) rfl rfl rfl (fl_field Try.underlying165 rfl rfl (fun w => ⟨_, Try.sizeOf3 w⟩) rfl) ?_
      refine WL_guard rfl rfl ?_
      refine WL_field Try.underlying165 rfl rfl (fun w => ⟨_, Try.sizeOf3 w⟩) rfl rfl ?_
      refine WL_nil ?_
      refine WA_takeG 6 rfl (by kernel_rfl) (by kernel_rfl) (by kernel_rfl) rfl rfl rfl (fl_move rfl) ?_
      refine WL_guard rfl rfl ?_
      refine WL_move rfl rfl ?_
      refine WL_nil ?_
      refine WA_takeG 7 rfl (by kernel_rfl) (by kernel_rfl) (by kernel_rfl) rfl rfl rfl (fl_len Try.underlying22 g1 rfl) ?_
      refine WL_guard rfl rfl ?_
      refine WL_len Try.underlying22 g1 rfl rfl ?_
      refine WL_nil ?_
      refine WA_takeG 8 rfl (by kernel_rfl) (by kernel_rfl) (by kernel_rfl) rfl rfl rfl (fl_sub rfl rfl) ?_
      refine WL_guard rfl rfl ?_
      refine WL_sub rfl rfl rfl ?_
      refine WL_nil ?_
      refine WA_one 5 (by kernel_rfl) rfl ?_
      refine WL_guard rfl rfl ?_
      refine WL_load_box hC4 0 rfl rfl Try.isAgg3 rfl rfl ?_
      refine WL_nil ?_
      obtain ⟨x3, hr3, hr1⟩ := bind_some hr1
      refine WA_one 9 (by kernel_rfl) rfl ?_
      refine WL_guard rfl rfl ?_
      refine WL_call Try.call90 rfl rfl (c_S_l1In a2.1 0 (w64 ((List.length a1 : Int) - 1)) x3 hr3) ?_
      intro _ w5 hv2
      obtain ⟨rfl, hB5⟩ := res_bool hv2
      have hC5 := hC4.grow hB5
      refine WL_nil ?_
      refine WA_takeG 10 rfl (by kernel_rfl) (by kernel_rfl) (by kernel_rfl) rfl rfl rfl (fl_not rfl) ?_
      refine WL_guard rfl rfl ?_
      refine WL_not rfl rfl ?_
      refine WL_nil ?_
      refine WA_take 11 rfl (by kernel_rfl) (by kernel_rfl) (by kernel_rfl) rfl (fl_pick_f rfl rfl) ?_
      refine WL_pick_f rfl rfl rfl ?_
      refine WL_nil ?_
      refine WA_take 12 rfl (by kernel_rfl) (by kernel_rfl) (by kernel_rfl) rfl (fl_move rfl) ?_
      refine WL_move rfl rfl ?_
      refine WL_nil ?_
      refine WA_fork (fun hc2 => ?_) (fun hc2 => ?_)
      · replace hr1 := ite_t hr1 hc2
        refine WA_skip 13 rfl (by kernel_rfl) (by kernel_rfl) (by kernel_rfl) rfl rfl rfl (by simp) rfl rfl ?_
        refine WA_skip 14 rfl (by kernel_rfl) (by kernel_rfl) (by kernel_rfl) rfl rfl rfl (by simp) rfl rfl ?_
        refine WA_skip 15 rfl (by kernel_rfl) (by kernel_rfl) (by kernel_rfl) rfl rfl rfl (by simp) rfl rfl ?_
        refine WA_skip 16 rfl (by kernel_rfl) (by kernel_rfl) (by kernel_rfl) rfl rfl rfl (by simp) rfl rfl ?_
        refine WA_skip 17 rfl (by kernel_rfl) (by kernel_rfl) (by kernel_rfl) rfl rfl rfl (by simp) rfl rfl ?_
        refine WA_skip 18 rfl (by kernel_rfl) (by kernel_rfl) (by kernel_rfl) rfl rfl rfl (by simp) rfl rfl ?_
        refine WA_skip 19 rfl (by kernel_rfl) (by kernel_rfl) (by kernel_rfl) rfl rfl rfl (by simp) rfl rfl ?_
        refine WA_skip 20 rfl (by kernel_rfl) (by kernel_rfl) (by kernel_rfl) rfl rfl rfl (by simp) rfl rfl ?_
        refine WA_skip 21 rfl (by kernel_rfl) (by kernel_rfl) (by kernel_rfl) rfl rfl rfl (by simp) rfl rfl ?_
        refine WA_take 22 rfl (by kernel_rfl) (by kernel_rfl) (by kernel_rfl) rfl (fl_pick_t rfl rfl) ?_
        refine WL_pick_t rfl rfl rfl ?_
        refine WL_nil ?_
        refine WA_done (by kernel_rfl) ?_
        have hq2 := Option.some.inj hr1
        subst hq2
        refine nrm_sub (l' := [(3, (ptr b1 0)), (28, (.bool true))]) ⟨rfl, rfl, trivial⟩ ?_
        exact ⟨true, rfl, rfl, (((Keep.of hB3).then hB4).then hB5).below, hC5⟩
      · replace hr1 := ite_f hr1 hc2
        refine WA_takeG 13 rfl (by kernel_rfl) (by kernel_rfl) (by kernel_rfl) rfl rfl rfl (fl_field Try.underlying165 rfl rfl (fun w => ⟨_, Try.sizeOf22 w⟩) rfl) ?_
        refine WL_guard rfl rfl ?_
        refine WL_field Try.underlying165 rfl rfl (fun w => ⟨_, Try.sizeOf22 w⟩) rfl rfl ?_
        refine WL_nil ?_
        refine WA_takeG 16 rfl (by kernel_rfl) (by kernel_rfl) (by kernel_rfl) rfl rfl rfl (fl_move rfl) ?_
        refine WL_guard rfl rfl ?_
        refine WL_move rfl rfl ?_
        refine WL_nil ?_
        refine WA_takeG 17 rfl (by kernel_rfl) (by kernel_rfl) (by kernel_rfl) rfl rfl rfl (fl_field Try.underlying165 rfl rfl (fun w => ⟨_, Try.sizeOf3 w⟩) rfl) ?_
        refine WL_guard rfl rfl ?_
        refine WL_field Try.underlying165 rfl rfl (fun w => ⟨_, Try.sizeOf3 w⟩) rfl rfl ?_
        refine WL_nil ?_
        obtain ⟨x4, hx1, hr1⟩ := bind_some hr1
        refine WA.sub (l' := [(0, u1), (1, (.agg #[(.int .i64 a2.1), u2])), (3, (ptr b1 0)), (4, (.bool false)), (6, u1), (7, (.bool x2)), (8, (.bool (!x2))), (9, (.bool false)), (10, (ptr b1 0)), (11, (.int .i64 a2.1)), (12, u1), (13, (.int .i64 (List.length a1 : Int))), (14, (.int .i64 (w64 ((List.length a1 : Int) - 1)))), (15, (.bool x3)), (16, (.bool (!x3))), (17, (.bool (!x3))), (18, (.bool false)), (19, (ptr b1 1)), (22, u1), (23, (ptr b1 0))]) ?_ ⟨rfl, rfl, rfl, rfl, rfl, rfl, rfl, rfl, rfl, rfl, rfl, rfl, rfl, rfl, rfl, rfl, rfl, rfl, rfl, rfl, trivial⟩
        refine WA_postsE [⟨14, [], fun vs => PW.val u2, []⟩, ⟨15, [], fun vs => PW.val (.int .i64 (List.length a2.2 : Int)), []⟩, ⟨18, [], fun vs => PW.val (.int .i64 a2.1), []⟩, ⟨19, [], fun vs => PW.at [] w0 x4, []⟩, ⟨20, [], fun vs => PW.val (.int .i64 x4), []⟩] [[], [14], [], [18], [19]] 2 rfl (by kernel_rfl) (by kernel_rfl) rfl ?_ ?_
        · refine StepsE_cons rfl ?_ ?_
          · intro w6 hB6
            refine DepsE_nil ?_
            refine ⟨_, rfl, ?_⟩
            refine WL_guard rfl rfl ?_
            refine WL_load_box (hC5.grow hB6) 0 rfl rfl Try.isAgg22 rfl rfl ?_
            refine WL_nil ?_
            exact FinE_val (Below.refl _ _) rfl rfl ⟨rfl, rfl⟩
          refine StepsE_cons rfl ?_ ?_
          · intro w6 hB6
            refine DepsE_cons rfl rfl rfl ?_
            rintro _ _ ⟨rfl, rfl⟩ _
            refine DepsE_nil ?_
            refine ⟨_, rfl, ?_⟩
            refine WL_guard rfl rfl ?_
            refine WL_len Try.underlying22 g2 rfl rfl ?_
            refine WL_nil ?_
            exact FinE_val (Below.refl _ _) rfl rfl ⟨rfl, rfl⟩
          refine StepsE_cons rfl ?_ ?_
          · intro w6 hB6
            refine DepsE_nil ?_
            refine ⟨_, rfl, ?_⟩
            refine WL_guard rfl rfl ?_
            refine WL_load_box (hC5.grow hB6) 0 rfl rfl Try.isAgg3 rfl rfl ?_
            refine WL_nil ?_
            exact FinE_val (Below.refl _ _) rfl rfl ⟨rfl, rfl⟩
          refine StepsE_cons rfl ?_ ?_
          · intro w6 hB6
            refine DepsE_cons rfl rfl rfl ?_
            rintro _ _ ⟨rfl, rfl⟩ _
            refine DepsE_nil ?_
            refine ⟨_, rfl, ?_⟩
            refine WL_guard rfl rfl ?_
            refine WL_index Try.underlying22 ty3 g1 hx1 rfl rfl rfl (fun b2 o1 h1 => ?_)
            refine WL_nil ?_
            exact FinE_val (Below.refl _ _) rfl rfl ⟨rfl, _, _, rfl, h1⟩
          refine StepsE_cons rfl ?_ ?_
          · intro w6 hB6
            refine DepsE_cons rfl rfl rfl ?_
            rintro _ _ ⟨rfl, b2, o1, rfl, h1⟩ _
            refine DepsE_nil ?_
            refine ⟨_, rfl, ?_⟩
            refine WL_guard rfl rfl ?_
            refine WL_load ty3 h1 (hC5.keep.then hB6) rfl rfl (fun v1 h2 => ?_)
            obtain rfl := ro_int h2
            refine WL_nil ?_
            exact FinE_val (Below.refl _ _) rfl rfl ⟨rfl, rfl⟩
          exact StepsE_nil
        · intro w7 hB7
          refine AllE_cons rfl rfl rfl ?_
          rintro _ _ ⟨rfl, rfl⟩
          refine AllE_cons rfl rfl rfl ?_
          rintro _ _ ⟨rfl, rfl⟩
          refine AllE_cons rfl rfl rfl ?_
          rintro _ _ ⟨rfl, rfl⟩
          refine AllE_cons rfl rfl rfl ?_
          rintro _ _ ⟨rfl, b2, o1, rfl, h1⟩
          refine AllE_cons rfl rfl rfl ?_
          rintro _ _ ⟨rfl, rfl⟩
          refine AllE_nil ?_
          intro hn1 hb1
          have hC6 := hC5.grow hB7
          refine WA_takeG 21 rfl (by kernel_rfl) (by kernel_rfl) (by kernel_rfl) rfl rfl rfl (fl_neq rfl rfl) ?_
          refine WL_guard rfl rfl ?_
          refine WL_neq rfl rfl rfl ?_
          refine WL_nil ?_
          refine WA_take 22 rfl (by kernel_rfl) (by kernel_rfl) (by kernel_rfl) rfl (fl_pick_f rfl rfl) ?_
          refine WL_pick_f rfl rfl rfl ?_
          refine WL_nil ?_
          refine WA_done (by kernel_rfl) ?_
          have hq3 := Option.some.inj hr1
          subst hq3
          refine nrm_sub (l' := [(3, (ptr b1 0)), (28, (.bool (!decide ((List.length a2.2 : Int) = x4))))]) ⟨rfl, rfl, trivial⟩ ?_
          exact ⟨(!decide ((List.length a2.2 : Int) = x4)), rfl, rfl, ((((Keep.of hB3).then hB4).then hB5).then hB7).below, hC6⟩
  · rintro _ w2 ⟨x1, rfl, rfl, hB2, hC2⟩
    try dsimp only at hF
    refine W_cond rfl (fun hc3 => ?_) (fun hc3 => ?_)
    · replace hF := ite_t hF hc3
      refine W_seq_reg ?_
      refine WL_assign rfl rfl ?_
      refine WL_nil ?_
      refine W_ret ?_
      refine nrm_ret ?_
      have hq4 := Option.some.inj hF
      subst hq4
      refine fn_ret1 rfl rfl ?_
      exact ⟨_, rfl, bool_res hC2 _⟩
    · replace hF := ite_f hF hc3
      refine W_skip ?_
      refine nrm_normal ?_
      refine W_seq ?_
      refine W_seq_reg ?_
      refine WL_assign rfl rfl ?_
      refine WL_nil ?_
      obtain ⟨r2, hr4, hF⟩ := bind_some hF
      refine W_norm (fun l w => .inl () = r2 ∧ l = [] ∧ Below w2.heap.size w2 w ∧ Ctx [] w0 w []) ?_ ?_
      · refine W_block ?_
        refine W.sub (l' := [(3, (ptr b1 0)), (5, (.int .i64 0))]) ?_ ⟨rfl, rfl, trivial⟩
        refine W_loop (fun k l w => ∃ x5 : Int, l = [(3, (ptr b1 0)), (5, (.int .i64 x5))] ∧ Below w2.heap.size w2 w ∧ Ctx [] w0 w [Item.box b1 [(.int .i64 a2.1), u2]] ∧ S.IsFact_l1 a2 k x5 = some r2) FUEL ⟨0, rfl, (Below.refl _ _), hC2, hr4⟩ ?_
        clear hr4
        rintro k1 _ w8 ⟨x5, rfl, hB8, hC7, hL1⟩
        cases k1 with
        | zero => rw [S.IsFact_l1] at hL1; cases hL1
        | succ k1 =>
          rw [S.IsFact_l1] at hL1
          refine W_seq ?_
          refine W_seq_reg ?_
          refine WL_move rfl rfl ?_
          refine WL_field Try.underlying165 rfl rfl (fun w => ⟨_, Try.sizeOf22 w⟩) rfl rfl ?_
          refine WL_load_box hC7 0 rfl rfl Try.isAgg22 rfl rfl ?_
          refine WL_len Try.underlying22 g2 rfl rfl ?_
          refine WL_lss rfl rfl rfl ?_
          refine WL_nil ?_
          refine W_cond rfl (fun hc4 => ?_) (fun hc4 => ?_)
          · replace hL1 := ite_t hL1 hc4
            refine W_skip ?_
            refine nrm_normal ?_
            refine W_seq ?_
            refine W_block ?_
            refine W_seq_reg ?_
            refine WL_field Try.underlying165 rfl rfl (fun w => ⟨_, Try.sizeOf22 w⟩) rfl rfl ?_
            refine WL_load_box hC7 0 rfl rfl Try.isAgg22 rfl rfl ?_
            refine WL_move rfl rfl ?_
            obtain ⟨x6, hx2, hL1⟩ := bind_some hL1
            refine WL_index Try.underlying22 ty3 g2 hx2 rfl rfl rfl (fun b3 o2 h3 => ?_)
            refine WL_load ty3 h3 hC7.keep rfl rfl (fun v2 h4 => ?_)
            obtain rfl := ro_int h4
            obtain ⟨x7, hr5, hL1⟩ := bind_some hL1
            refine WL_call Try.call90 rfl rfl (c_S_l1In x6 0 9 x7 hr5) ?_
            intro _ w9 hv3
            obtain ⟨rfl, hB9⟩ := res_bool hv3
            have hC8 := hC7.grow hB9
            refine WL_not rfl rfl ?_
            refine WL_nil ?_
            refine W_cond rfl (fun hc5 => ?_) (fun hc5 => ?_)
            · replace hL1 := ite_t hL1 hc5
              refine W_seq_reg ?_
              refine WL_assign rfl rfl ?_
              refine WL_nil ?_
              refine W_ret ?_
              refine blk_ret ?_
              refine nrm_ret ?_
              refine nrm_ret ?_
              refine blk_ret ?_
              refine nrm_ret ?_
              refine nrm_ret ?_
              have hq5 := Option.some.inj hL1
              subst hq5
              dsimp only at hF
              have hq6 := Option.some.inj hF
              subst hq6
              refine fn_ret1 rfl rfl ?_
              exact ⟨_, rfl, bool_res hC8 _⟩
            · replace hL1 := ite_f hL1 hc5
              refine W_skip ?_
              refine blk_normal ?_
              refine nrm_normal ?_
              refine W_reg ?_
              refine WL_move rfl rfl ?_
              refine WL_add rfl rfl rfl ?_
              refine WL_assign rfl rfl ?_
              refine WL_nil ?_
              refine nrm_sub (l' := [(3, (ptr b1 0)), (5, (.int .i64 (w64 (x5 + 1))))]) ⟨rfl, rfl, trivial⟩ ?_
              exact ⟨k1, Nat.lt_succ_self _, w64 (x5 + 1), rfl, ((Keep.of hB8).then hB9).below, hC8, hL1⟩
          · replace hL1 := ite_f hL1 hc4
            refine W_exit ?_
            refine nrm_exit ?_
            refine nrm_exit ?_
            refine blk_exit ?_
            have hq7 := Option.some.inj hL1
            subst hq7
            have hC9 : Ctx [] w0 _ [] := hC7.headN 0
            refine nrm_sub (l' := []) trivial ?_
            exact ⟨rfl, rfl, (Keep.of hB8).below, hC9⟩
      · rintro l3 _ w10 hs3 ⟨rfl, rfl, hB10, hC10⟩
        try dsimp only at hF
        refine nrm_sub' hs3 ?_
        clear hs3
        refine W_seq_reg ?_
        refine WL_assign rfl rfl ?_
        refine WL_nil ?_
        refine W_ret ?_
        have hq8 := Option.some.inj hF
        subst hq8
        refine fn_ret1 rfl rfl ?_
        exact ⟨_, rfl, bool_res hC10 _⟩

theorem c_S_CompareFacts {w0 : World} (a1 : (Int × (List Int))) (u1 : Value) (g1 : RO [] w0 u1 a1.2) (a2 : (Int × (List Int))) (u2 : Value) (g2 : RO [] w0 u2 a2.2) (rr : Int) (hF : S.CompareFacts a1 a2 = some rr) :
    Calls Try.prog 145 [(.agg #[(.int .i64 a1.1), u1]), (.agg #[(.int .i64 a2.1), u2])].toArray w0 fun e w' => ∃ v, e = .returned v ∧ Res w0 rr v w' := by
  refine calls_of_W Try.func145 rfl rfl ?_
  have hC0 := Ctx.start w0
  unfold S.CompareFacts at hF
  refine W_seq_reg ?_
  refine WL_box (cs := [(.int .i64 a1.1), u1]) hC0 rfl rfl rfl (fun b1 w1 hC1 hB1 => ?_)
  refine WL_box (cs := [(.int .i64 a2.1), u2]) hC1 rfl rfl rfl (fun b2 w2 hC2 hB2 => ?_)
  refine WL_assign rfl rfl ?_
  refine WL_nil ?_
  refine W_seq ?_
  refine W_seq_reg ?_
  refine WL_field Try.underlying165 rfl rfl (fun w => ⟨_, Try.sizeOf3 w⟩) rfl rfl ?_
  refine WL_load_box hC2 1 rfl rfl Try.isAgg3 rfl rfl ?_
  refine WL_field Try.underlying165 rfl rfl (fun w => ⟨_, Try.sizeOf3 w⟩) rfl rfl ?_
  refine WL_load_box hC2 0 rfl rfl Try.isAgg3 rfl rfl ?_
  refine WL_neq rfl rfl rfl ?_
  refine WL_nil ?_
  refine W_cond rfl (fun hc1 => ?_) (fun hc1 => ?_)
  · replace hF := ite_t hF hc1
    refine W_seq ?_
    refine W_seq_reg ?_
    refine WL_field Try.underlying165 rfl rfl (fun w => ⟨_, Try.sizeOf3 w⟩) rfl rfl ?_
    refine WL_load_box hC2 1 rfl rfl Try.isAgg3 rfl rfl ?_
    refine WL_field Try.underlying165 rfl rfl (fun w => ⟨_, Try.sizeOf3 w⟩) rfl rfl ?_
    refine WL_load_box hC2 0 rfl rfl Try.isAgg3 rfl rfl ?_
    refine WL_lss rfl rfl rfl ?_
    refine WL_nil ?_
    refine W_cond rfl (fun hc2 => ?_) (fun hc2 => ?_)
    · replace hF := ite_t hF hc2
      refine W_seq_reg ?_
      refine WL_assign rfl rfl ?_
      refine WL_nil ?_
      refine W_ret ?_
      refine nrm_ret ?_
      refine nrm_ret ?_
      have hq1 := Option.some.inj hF
      subst hq1
      refine fn_ret1 rfl rfl ?_
      exact ⟨_, rfl, int_res hC2 _⟩
    · replace hF := ite_f hF hc2
      refine W_skip ?_
      refine nrm_normal ?_
      refine W_seq_reg ?_
      refine WL_assign rfl rfl ?_
      refine WL_nil ?_
      refine W_ret ?_
      refine nrm_ret ?_
      have hq2 := Option.some.inj hF
      subst hq2
      refine fn_ret1 rfl rfl ?_
      exact ⟨_, rfl, int_res hC2 _⟩
  · replace hF := ite_f hF hc1
    refine W_skip ?_
    refine nrm_normal ?_
    refine W_seq ?_
    refine W_seq_reg ?_
    refine WL_assign rfl rfl ?_
    refine WL_nil ?_
    obtain ⟨r1, hr1, hF⟩ := bind_some hF
    refine W_norm (fun l w => .inl () = r1 ∧ l = [(2, (ptr b1 0)), (3, (ptr b2 0))] ∧ Below w2.heap.size w2 w ∧ Ctx [] w0 w [Item.box b2 [(.int .i64 a2.1), u2], Item.box b1 [(.int .i64 a1.1), u1]]) ?_ ?_
    · refine W_block ?_
      refine W.sub (l' := [(2, (ptr b1 0)), (3, (ptr b2 0)), (5, (.int .i64 0))]) ?_ ⟨rfl, rfl, rfl, trivial⟩
      refine W_loop (fun k l w => ∃ x1 : Int, l = [(2, (ptr b1 0)), (3, (ptr b2 0)), (5, (.int .i64 x1))] ∧ Below w2.heap.size w2 w ∧ Ctx [] w0 w [Item.box b2 [(.int .i64 a2.1), u2], Item.box b1 [(.int .i64 a1.1), u1]] ∧ S.CompareFacts_l1 a1 a2 k x1 = some r1) FUEL ⟨0, rfl, (Below.refl _ _), hC2, hr1⟩ ?_
      clear hr1
      rintro k1 _ w3 ⟨x1, rfl, hB3, hC3, hL1⟩
      cases k1 with
      | zero => rw [S.CompareFacts_l1] at hL1; cases hL1
      | succ k1 =>
        rw [S.CompareFacts_l1] at hL1
        refine W_seq ?_
        obtain ⟨r2, hr2, hL1⟩ := bind_some hL1
        refine W_cut (fun l w => ∃ x2 : Bool, x2 = r2 ∧ l = [(2, (ptr b1 0)), (3, (ptr b2 0)), (5, (.int .i64 x1)), (27, (.bool x2))] ∧ Below w3.heap.size w3 w ∧ Ctx [] w0 w [Item.box b2 [(.int .i64 a2.1), u2], Item.box b1 [(.int .i64 a1.1), u1]]) ?_ ?_
        · refine W_reg ?_
          refine WL_move rfl rfl ?_
          refine WL_field Try.underlying165 rfl rfl (fun w => ⟨_, Try.sizeOf22 w⟩) rfl rfl ?_
          refine WL_load_box hC3 1 rfl rfl Try.isAgg22 rfl rfl ?_
          refine WL_len Try.underlying22 g1 rfl rfl ?_
          refine WL_lss rfl rfl rfl ?_
          refine WL_move rfl rfl ?_
          refine WL_fork (fun hc3 => ?_) (fun hc3 => ?_)
          · replace hr2 := ite_t hr2 hc3
            refine WL_guard rfl rfl ?_
            refine WL_move rfl rfl ?_
            refine WL_guard rfl rfl ?_
            refine WL_field Try.underlying165 rfl rfl (fun w => ⟨_, Try.sizeOf22 w⟩) rfl rfl ?_
            refine WL_guard rfl rfl ?_
            refine WL_load_box hC3 0 rfl rfl Try.isAgg22 rfl rfl ?_
            refine WL_guard rfl rfl ?_
            refine WL_len Try.underlying22 g2 rfl rfl ?_
            refine WL_guard rfl rfl ?_
            refine WL_lss rfl rfl rfl ?_
            refine WL_pick_t rfl rfl rfl ?_
            refine WL_nil ?_
            have hq3 := Option.some.inj hr2
            subst hq3
            refine nrm_sub (l' := [(2, (ptr b1 0)), (3, (ptr b2 0)), (5, (.int .i64 x1)), (27, (.bool (decide (x1 < (List.length a2.2 : Int)))))]) ⟨rfl, rfl, rfl, rfl, trivial⟩ ?_
            exact ⟨(decide (x1 < (List.length a2.2 : Int))), rfl, rfl, (Below.refl _ _), hC3⟩
          · replace hr2 := ite_f hr2 hc3
            refine WL_guard_skip rfl rfl (by simp) rfl ?_
            refine WL_guard_skip rfl rfl (by simp) rfl ?_
            refine WL_guard_skip rfl rfl (by simp) rfl ?_
            refine WL_guard_skip rfl rfl (by simp) rfl ?_
            refine WL_guard_skip rfl rfl (by simp) rfl ?_
            refine WL_pick_f rfl rfl rfl ?_
            refine WL_nil ?_
            have hq4 := Option.some.inj hr2
            subst hq4
            refine nrm_sub (l' := [(2, (ptr b1 0)), (3, (ptr b2 0)), (5, (.int .i64 x1)), (27, (.bool false))]) ⟨rfl, rfl, rfl, rfl, trivial⟩ ?_
            exact ⟨false, rfl, rfl, (Below.refl _ _), hC3⟩
        · rintro _ w4 ⟨x2, rfl, rfl, hB4, hC4⟩
          try dsimp only at hL1
          refine W_cond rfl (fun hc4 => ?_) (fun hc4 => ?_)
          · replace hL1 := ite_t hL1 hc4
            refine W_skip ?_
            refine nrm_normal ?_
            refine W_seq ?_
            refine W_block ?_
            refine W_seq ?_
            refine W_seq ?_
            refine W_drawn 11 rfl hmix (fun w5 hB5 => ?_)
            have hC5 := hC4.grow hB5
            refine WA_take 0 rfl (by kernel_rfl) (by kernel_rfl) (by kernel_rfl) rfl (fl_field Try.underlying165 rfl rfl (fun w => ⟨_, Try.sizeOf22 w⟩) rfl) ?_
            refine WL_field Try.underlying165 rfl rfl (fun w => ⟨_, Try.sizeOf22 w⟩) rfl rfl ?_
            refine WL_nil ?_
            refine WA_take 2 rfl (by kernel_rfl) (by kernel_rfl) (by kernel_rfl) rfl (fl_move rfl) ?_
            refine WL_move rfl rfl ?_
            refine WL_nil ?_
            refine WA_take 5 rfl (by kernel_rfl) (by kernel_rfl) (by kernel_rfl) rfl (fl_field Try.underlying165 rfl rfl (fun w => ⟨_, Try.sizeOf22 w⟩) rfl) ?_
            refine WL_field Try.underlying165 rfl rfl (fun w => ⟨_, Try.sizeOf22 w⟩) rfl rfl ?_
            refine WL_nil ?_
            refine WA_take 7 rfl (by kernel_rfl) (by kernel_rfl) (by kernel_rfl) rfl (fl_move rfl) ?_
            refine WL_move rfl rfl ?_
            refine WL_nil ?_
            obtain ⟨x3, hx1, hL1⟩ := bind_some hL1
            obtain ⟨x4, hx2, hL1⟩ := bind_some hL1
            refine WA.sub (l' := [(2, (ptr b1 0)), (3, (ptr b2 0)), (5, (.int .i64 x1)), (27, (.bool x2)), (30, (ptr b1 1)), (32, (.int .i64 x1)), (35, (ptr b2 1)), (37, (.int .i64 x1))]) ?_ ⟨rfl, rfl, rfl, rfl, rfl, rfl, rfl, rfl, trivial⟩
            refine WA_postsE [⟨1, [], fun vs => PW.val u1, []⟩, ⟨3, [], fun vs => PW.at [] w0 x3, []⟩, ⟨4, [], fun vs => PW.val (.int .i64 x3), []⟩, ⟨6, [], fun vs => PW.val u2, []⟩, ⟨8, [], fun vs => PW.at [] w0 x4, []⟩, ⟨9, [], fun vs => PW.val (.int .i64 x4), []⟩] [[], [1], [3], [], [6], [8]] 1 rfl (by kernel_rfl) (by kernel_rfl) rfl ?_ ?_
            · refine StepsE_cons rfl ?_ ?_
              · intro w6 hB6
                refine DepsE_nil ?_
                refine ⟨_, rfl, ?_⟩
                refine WL_load_box (hC5.grow hB6) 1 rfl rfl Try.isAgg22 rfl rfl ?_
                refine WL_nil ?_
                exact FinE_val (Below.refl _ _) rfl rfl ⟨rfl, rfl⟩
              refine StepsE_cons rfl ?_ ?_
              · intro w6 hB6
                refine DepsE_cons rfl rfl rfl ?_
                rintro _ _ ⟨rfl, rfl⟩ _
                refine DepsE_nil ?_
                refine ⟨_, rfl, ?_⟩
                refine WL_index Try.underlying22 ty3 g1 hx1 rfl rfl rfl (fun b3 o1 h1 => ?_)
                refine WL_nil ?_
                exact FinE_val (Below.refl _ _) rfl rfl ⟨rfl, _, _, rfl, h1⟩
              refine StepsE_cons rfl ?_ ?_
              · intro w6 hB6
                refine DepsE_cons rfl rfl rfl ?_
                rintro _ _ ⟨rfl, b3, o1, rfl, h1⟩ _
                refine DepsE_nil ?_
                refine ⟨_, rfl, ?_⟩
                refine WL_load ty3 h1 (hC5.keep.then hB6) rfl rfl (fun v1 h2 => ?_)
                obtain rfl := ro_int h2
                refine WL_nil ?_
                exact FinE_val (Below.refl _ _) rfl rfl ⟨rfl, rfl⟩
              refine StepsE_cons rfl ?_ ?_
              · intro w6 hB6
                refine DepsE_nil ?_
                refine ⟨_, rfl, ?_⟩
                refine WL_load_box (hC5.grow hB6) 0 rfl rfl Try.isAgg22 rfl rfl ?_
                refine WL_nil ?_
                exact FinE_val (Below.refl _ _) rfl rfl ⟨rfl, rfl⟩
              refine StepsE_cons rfl ?_ ?_
              · intro w6 hB6
                refine DepsE_cons rfl rfl rfl ?_
                rintro _ _ ⟨rfl, rfl⟩ _
                refine DepsE_nil ?_
                refine ⟨_, rfl, ?_⟩
                refine WL_index Try.underlying22 ty3 g2 hx2 rfl rfl rfl (fun b4 o2 h3 => ?_)
                refine WL_nil ?_
                exact FinE_val (Below.refl _ _) rfl rfl ⟨rfl, _, _, rfl, h3⟩
              refine StepsE_cons rfl ?_ ?_
              · intro w6 hB6
                refine DepsE_cons rfl rfl rfl ?_
                rintro _ _ ⟨rfl, b4, o2, rfl, h3⟩ _
                refine DepsE_nil ?_
                refine ⟨_, rfl, ?_⟩
                refine WL_load ty3 h3 (hC5.keep.then hB6) rfl rfl (fun v2 h4 => ?_)
                obtain rfl := ro_int h4
                refine WL_nil ?_
                exact FinE_val (Below.refl _ _) rfl rfl ⟨rfl, rfl⟩
              exact StepsE_nil
            · intro w7 hB7
              refine AllE_cons rfl rfl rfl ?_
              rintro _ _ ⟨rfl, rfl⟩
              refine AllE_cons rfl rfl rfl ?_
              rintro _ _ ⟨rfl, b3, o1, rfl, h1⟩
              refine AllE_cons rfl rfl rfl ?_
              rintro _ _ ⟨rfl, rfl⟩
              refine AllE_cons rfl rfl rfl ?_
              rintro _ _ ⟨rfl, rfl⟩
              refine AllE_cons rfl rfl rfl ?_
              rintro _ _ ⟨rfl, b4, o2, rfl, h3⟩
              refine AllE_cons rfl rfl rfl ?_
              rintro _ _ ⟨rfl, rfl⟩
              refine AllE_nil ?_
              intro hn1 hb1
              have hC6 := hC5.grow hB7
              refine WA_take 10 rfl (by kernel_rfl) (by kernel_rfl) (by kernel_rfl) rfl (fl_lss rfl rfl) ?_
              refine WL_lss rfl rfl rfl ?_
              refine WL_nil ?_
              refine WA_done (by kernel_rfl) ?_
              refine nrm_normal ?_
              refine W_cond rfl (fun hc5 => ?_) (fun hc5 => ?_)
              · replace hL1 := ite_t hL1 hc5
                refine W_seq_reg ?_
                refine WL_assign rfl rfl ?_
                refine WL_nil ?_
                refine W_ret ?_
                refine nrm_ret ?_
                refine blk_ret ?_
                refine nrm_ret ?_
                refine nrm_ret ?_
                refine blk_ret ?_
                refine nrm_ret ?_
                refine nrm_ret ?_
                have hq5 := Option.some.inj hL1
                subst hq5
                dsimp only at hF
                have hq6 := Option.some.inj hF
                subst hq6
                refine fn_ret1 rfl rfl ?_
                exact ⟨_, rfl, int_res hC6 _⟩
              · replace hL1 := ite_f hL1 hc5
                refine W_skip ?_
                refine nrm_normal ?_
                refine W_seq ?_
                refine W_drawn 11 rfl hmix (fun w8 hB8 => ?_)
                have hC7 := hC6.grow hB8
                refine WA_take 0 rfl (by kernel_rfl) (by kernel_rfl) (by kernel_rfl) rfl (fl_field Try.underlying165 rfl rfl (fun w => ⟨_, Try.sizeOf22 w⟩) rfl) ?_
                refine WL_field Try.underlying165 rfl rfl (fun w => ⟨_, Try.sizeOf22 w⟩) rfl rfl ?_
                refine WL_nil ?_
                refine WA_take 2 rfl (by kernel_rfl) (by kernel_rfl) (by kernel_rfl) rfl (fl_move rfl) ?_
                refine WL_move rfl rfl ?_
                refine WL_nil ?_
                refine WA_take 5 rfl (by kernel_rfl) (by kernel_rfl) (by kernel_rfl) rfl (fl_field Try.underlying165 rfl rfl (fun w => ⟨_, Try.sizeOf22 w⟩) rfl) ?_
                refine WL_field Try.underlying165 rfl rfl (fun w => ⟨_, Try.sizeOf22 w⟩) rfl rfl ?_
                refine WL_nil ?_
                refine WA_take 7 rfl (by kernel_rfl) (by kernel_rfl) (by kernel_rfl) rfl (fl_move rfl) ?_
                refine WL_move rfl rfl ?_
                refine WL_nil ?_
                obtain ⟨x5, hx3, hL1⟩ := bind_some hL1
                obtain ⟨x6, hx4, hL1⟩ := bind_some hL1
                refine WA.sub (l' := [(2, (ptr b1 0)), (3, (ptr b2 0)), (5, (.int .i64 x1)), (27, (.bool x2)), (30, (ptr b1 1)), (31, u1), (32, (.int .i64 x1)), (33, (ptr b3 o1)), (34, (.int .i64 x3)), (35, (ptr b2 1)), (36, u2), (37, (.int .i64 x1)), (38, (ptr b4 o2)), (39, (.int .i64 x4)), (40, (.bool (decide (x3 < x4)))), (41, (ptr b1 1)), (43, (.int .i64 x1)), (46, (ptr b2 1)), (48, (.int .i64 x1))]) ?_ ⟨rfl, rfl, rfl, rfl, rfl, rfl, rfl, rfl, rfl, rfl, rfl, rfl, rfl, rfl, rfl, rfl, rfl, rfl, rfl, trivial⟩
                refine WA_postsE [⟨1, [], fun vs => PW.val u1, []⟩, ⟨3, [], fun vs => PW.at [] w0 x5, []⟩, ⟨4, [], fun vs => PW.val (.int .i64 x5), []⟩, ⟨6, [], fun vs => PW.val u2, []⟩, ⟨8, [], fun vs => PW.at [] w0 x6, []⟩, ⟨9, [], fun vs => PW.val (.int .i64 x6), []⟩] [[], [1], [3], [], [6], [8]] 1 rfl (by kernel_rfl) (by kernel_rfl) rfl ?_ ?_
                · refine StepsE_cons rfl ?_ ?_
                  · intro w9 hB9
                    refine DepsE_nil ?_
                    refine ⟨_, rfl, ?_⟩
                    refine WL_load_box (hC7.grow hB9) 1 rfl rfl Try.isAgg22 rfl rfl ?_
                    refine WL_nil ?_
                    exact FinE_val (Below.refl _ _) rfl rfl ⟨rfl, rfl⟩
                  refine StepsE_cons rfl ?_ ?_
                  · intro w9 hB9
                    refine DepsE_cons rfl rfl rfl ?_
                    rintro _ _ ⟨rfl, rfl⟩ _
                    refine DepsE_nil ?_
                    refine ⟨_, rfl, ?_⟩
                    refine WL_index Try.underlying22 ty3 g1 hx3 rfl rfl rfl (fun b5 o3 h5 => ?_)
                    refine WL_nil ?_
                    exact FinE_val (Below.refl _ _) rfl rfl ⟨rfl, _, _, rfl, h5⟩
                  refine StepsE_cons rfl ?_ ?_
                  · intro w9 hB9
                    refine DepsE_cons rfl rfl rfl ?_
                    rintro _ _ ⟨rfl, b5, o3, rfl, h5⟩ _
                    refine DepsE_nil ?_
                    refine ⟨_, rfl, ?_⟩
                    refine WL_load ty3 h5 (hC7.keep.then hB9) rfl rfl (fun v3 h6 => ?_)
                    obtain rfl := ro_int h6
                    refine WL_nil ?_
                    exact FinE_val (Below.refl _ _) rfl rfl ⟨rfl, rfl⟩
                  refine StepsE_cons rfl ?_ ?_
                  · intro w9 hB9
                    refine DepsE_nil ?_
                    refine ⟨_, rfl, ?_⟩
                    refine WL_load_box (hC7.grow hB9) 0 rfl rfl Try.isAgg22 rfl rfl ?_
                    refine WL_nil ?_
                    exact FinE_val (Below.refl _ _) rfl rfl ⟨rfl, rfl⟩
                  refine StepsE_cons rfl ?_ ?_
                  · intro w9 hB9
                    refine DepsE_cons rfl rfl rfl ?_
                    rintro _ _ ⟨rfl, rfl⟩ _
                    refine DepsE_nil ?_
                    refine ⟨_, rfl, ?_⟩
                    refine WL_index Try.underlying22 ty3 g2 hx4 rfl rfl rfl (fun b6 o4 h7 => ?_)
                    refine WL_nil ?_
                    exact FinE_val (Below.refl _ _) rfl rfl ⟨rfl, _, _, rfl, h7⟩
                  refine StepsE_cons rfl ?_ ?_
                  · intro w9 hB9
                    refine DepsE_cons rfl rfl rfl ?_
                    rintro _ _ ⟨rfl, b6, o4, rfl, h7⟩ _
                    refine DepsE_nil ?_
                    refine ⟨_, rfl, ?_⟩
                    refine WL_load ty3 h7 (hC7.keep.then hB9) rfl rfl (fun v4 h8 => ?_)
                    obtain rfl := ro_int h8
                    refine WL_nil ?_
                    exact FinE_val (Below.refl _ _) rfl rfl ⟨rfl, rfl⟩
                  exact StepsE_nil
                · intro w10 hB10
                  refine AllE_cons rfl rfl rfl ?_
                  rintro _ _ ⟨rfl, rfl⟩
                  refine AllE_cons rfl rfl rfl ?_
                  rintro _ _ ⟨rfl, b5, o3, rfl, h5⟩
                  refine AllE_cons rfl rfl rfl ?_
                  rintro _ _ ⟨rfl, rfl⟩
                  refine AllE_cons rfl rfl rfl ?_
                  rintro _ _ ⟨rfl, rfl⟩
                  refine AllE_cons rfl rfl rfl ?_
                  rintro _ _ ⟨rfl, b6, o4, rfl, h7⟩
                  refine AllE_cons rfl rfl rfl ?_
                  rintro _ _ ⟨rfl, rfl⟩
                  refine AllE_nil ?_
                  intro hn2 hb2
                  have hC8 := hC7.grow hB10
                  refine WA_take 10 rfl (by kernel_rfl) (by kernel_rfl) (by kernel_rfl) rfl (fl_gtr rfl rfl) ?_
                  refine WL_gtr rfl rfl rfl ?_
                  refine WL_nil ?_
                  refine WA_done (by kernel_rfl) ?_
                  refine nrm_normal ?_
                  refine W_cond rfl (fun hc6 => ?_) (fun hc6 => ?_)
                  · replace hL1 := ite_t hL1 hc6
                    refine W_seq_reg ?_
                    refine WL_assign rfl rfl ?_
                    refine WL_nil ?_
                    refine W_ret ?_
                    refine blk_ret ?_
                    refine nrm_ret ?_
                    refine nrm_ret ?_
                    refine blk_ret ?_
                    refine nrm_ret ?_
                    refine nrm_ret ?_
                    have hq7 := Option.some.inj hL1
                    subst hq7
                    dsimp only at hF
                    have hq8 := Option.some.inj hF
                    subst hq8
                    refine fn_ret1 rfl rfl ?_
                    exact ⟨_, rfl, int_res hC8 _⟩
                  · replace hL1 := ite_f hL1 hc6
                    refine W_skip ?_
                    refine blk_normal ?_
                    refine nrm_normal ?_
                    refine W_reg ?_
                    refine WL_move rfl rfl ?_
                    refine WL_add rfl rfl rfl ?_
                    refine WL_assign rfl rfl ?_
                    refine WL_nil ?_
                    refine nrm_sub (l' := [(2, (ptr b1 0)), (3, (ptr b2 0)), (5, (.int .i64 (w64 (x1 + 1))))]) ⟨rfl, rfl, rfl, trivial⟩ ?_
                    exact ⟨k1, Nat.lt_succ_self _, w64 (x1 + 1), rfl, ((((((Keep.of hB3).then hB4).then hB5).then hB7).then hB8).then hB10).below, hC8, hL1⟩
          · replace hL1 := ite_f hL1 hc4
            refine W_exit ?_
            refine nrm_exit ?_
            refine nrm_exit ?_
            refine blk_exit ?_
            have hq9 := Option.some.inj hL1
            subst hq9
            refine nrm_sub (l' := [(2, (ptr b1 0)), (3, (ptr b2 0))]) ⟨rfl, rfl, trivial⟩ ?_
            exact ⟨rfl, rfl, ((Keep.of hB3).then hB4).below, hC4⟩
    · rintro l3 _ w11 hs3 ⟨rfl, rfl, hB11, hC9⟩
      try dsimp only at hF
      refine nrm_sub' hs3 ?_
      clear hs3
      refine W_seq ?_
      refine W_seq_reg ?_
      refine WL_field Try.underlying165 rfl rfl (fun w => ⟨_, Try.sizeOf22 w⟩) rfl rfl ?_
      refine WL_load_box hC9 1 rfl rfl Try.isAgg22 rfl rfl ?_
      refine WL_len Try.underlying22 g1 rfl rfl ?_
      refine WL_field Try.underlying165 rfl rfl (fun w => ⟨_, Try.sizeOf22 w⟩) rfl rfl ?_
      refine WL_load_box hC9 0 rfl rfl Try.isAgg22 rfl rfl ?_
      refine WL_len Try.underlying22 g2 rfl rfl ?_
      refine WL_lss rfl rfl rfl ?_
      refine WL_nil ?_
      refine W_cond rfl (fun hc7 => ?_) (fun hc7 => ?_)
      · replace hF := ite_t hF hc7
        refine W_seq_reg ?_
        refine WL_assign rfl rfl ?_
        refine WL_nil ?_
        refine W_ret ?_
        refine nrm_ret ?_
        have hq10 := Option.some.inj hF
        subst hq10
        refine fn_ret1 rfl rfl ?_
        exact ⟨_, rfl, int_res hC9 _⟩
      · replace hF := ite_f hF hc7
        refine W_skip ?_
        refine nrm_normal ?_
        refine W_seq ?_
        refine W_seq_reg ?_
        refine WL_field Try.underlying165 rfl rfl (fun w => ⟨_, Try.sizeOf22 w⟩) rfl rfl ?_
        refine WL_load_box hC9 1 rfl rfl Try.isAgg22 rfl rfl ?_
        refine WL_len Try.underlying22 g1 rfl rfl ?_
        refine WL_field Try.underlying165 rfl rfl (fun w => ⟨_, Try.sizeOf22 w⟩) rfl rfl ?_
        refine WL_load_box hC9 0 rfl rfl Try.isAgg22 rfl rfl ?_
        refine WL_len Try.underlying22 g2 rfl rfl ?_
        refine WL_gtr rfl rfl rfl ?_
        refine WL_nil ?_
        refine W_cond rfl (fun hc8 => ?_) (fun hc8 => ?_)
        · replace hF := ite_t hF hc8
          refine W_seq_reg ?_
          refine WL_assign rfl rfl ?_
          refine WL_nil ?_
          refine W_ret ?_
          refine nrm_ret ?_
          have hq11 := Option.some.inj hF
          subst hq11
          refine fn_ret1 rfl rfl ?_
          exact ⟨_, rfl, int_res hC9 _⟩
        · replace hF := ite_f hF hc8
          refine W_skip ?_
          refine nrm_normal ?_
          refine W_seq_reg ?_
          refine WL_assign rfl rfl ?_
          refine WL_nil ?_
          refine W_ret ?_
          have hq12 := Option.some.inj hF
          subst hq12
          refine fn_ret1 rfl rfl ?_
          exact ⟨_, rfl, int_res hC9 _⟩

theorem c_S_AreFacts {w0 : World} (a1 : (List Int)) (u1 : Value) (g1 : RO [] w0 u1 a1) (a2 : (List (Int × (List Int)))) (u2 : Value) (g2 : RO [] w0 u2 a2) (rr : Bool) (hF : S.AreFacts a1 a2 = some rr) :
    Calls Try.prog 119 [u1, u2].toArray w0 fun e w' => ∃ v, e = .returned v ∧ Res w0 rr v w' := by
  refine calls_of_W Try.func119 rfl rfl ?_
  have hC0 := Ctx.start w0
  unfold S.AreFacts at hF
  refine W_seq_reg ?_
  refine WL_assign rfl rfl ?_
  refine WL_nil ?_
  refine W_seq ?_
  refine W_seq_reg ?_
  refine WL_assign rfl rfl ?_
  refine WL_nil ?_
  obtain ⟨r1, hr1, hF⟩ := bind_some hF
  refine W_norm (fun l w => .inl () = r1 ∧ l = [(0, u1), (1, u2)] ∧ Below w0.heap.size w0 w ∧ Ctx [] w0 w []) ?_ ?_
  · refine W_block ?_
    refine W.sub (l' := [(0, u1), (1, u2), (5, (.int .i64 0))]) ?_ ⟨rfl, rfl, rfl, trivial⟩
    refine W_loop (fun k l w => ∃ x1 : Int, l = [(0, u1), (1, u2), (5, (.int .i64 x1))] ∧ Below w0.heap.size w0 w ∧ Ctx [] w0 w [] ∧ S.AreFacts_l1 a2 a1 k x1 = some r1) FUEL ⟨0, rfl, (Below.refl _ _), hC0, hr1⟩ ?_
    clear hr1
    rintro k1 _ w1 ⟨x1, rfl, hB1, hC1, hL1⟩
    cases k1 with
    | zero => rw [S.AreFacts_l1] at hL1; cases hL1
    | succ k1 =>
      rw [S.AreFacts_l1] at hL1
      refine W_seq ?_
      refine W_seq_reg ?_
      refine WL_move rfl rfl ?_
      refine WL_move rfl rfl ?_
      refine WL_len Try.underlying100 g2 rfl rfl ?_
      refine WL_lss rfl rfl rfl ?_
      refine WL_nil ?_
      refine W_cond rfl (fun hc1 => ?_) (fun hc1 => ?_)
      · replace hL1 := ite_t hL1 hc1
        refine W_skip ?_
        refine nrm_normal ?_
        refine W_seq ?_
        refine W_block ?_
        obtain ⟨r2, hr2, hL1⟩ := bind_some hL1
        refine W_cut (fun l w => ∃ x2 : Bool, x2 = r2 ∧ l = [(0, u1), (1, u2), (5, (.int .i64 x1)), (35, (.bool x2))] ∧ Below w1.heap.size w1 w ∧ Ctx [] w0 w []) ?_ ?_
        · refine W_drawn 24 rfl hmix (fun w3 hB3 => ?_)
          have hC3 := hC1.grow hB3
          refine WA_take 0 rfl (by kernel_rfl) (by kernel_rfl) (by kernel_rfl) rfl (fl_move rfl) ?_
          refine WL_move rfl rfl ?_
          refine WL_nil ?_
          refine WA_take 1 rfl (by kernel_rfl) (by kernel_rfl) (by kernel_rfl) rfl (fl_move rfl) ?_
          refine WL_move rfl rfl ?_
          refine WL_nil ?_
          refine WA_take 2 rfl (by kernel_rfl) (by kernel_rfl) (by kernel_rfl) rfl (fl_move rfl) ?_
          refine WL_move rfl rfl ?_
          refine WL_nil ?_
          obtain ⟨x3, hx1, hr2⟩ := bind_some hr2
          refine WA_take 3 rfl (by kernel_rfl) (by kernel_rfl) (by kernel_rfl) rfl (fl_index Try.underlying100 ty165 g2 hx1 rfl rfl) ?_
          refine WL_index Try.underlying100 ty165 g2 hx1 rfl rfl rfl (fun b1 o1 h1 => ?_)
          refine WL_nil ?_
          refine WA_one 4 (by kernel_rfl) rfl ?_
          refine WL_load ty165 h1 hC3.keep rfl rfl (fun v1 h2 => ?_)
          obtain ⟨v2, rfl, h3⟩ := ro_st165 h2
          refine WL_nil ?_
          obtain ⟨x4, hr3, hr2⟩ := bind_some hr2
          refine WA_one 5 (by kernel_rfl) rfl ?_
          refine WL_call Try.call144 rfl rfl (c_S_IsFact a1 u1 (g1.now hC3.keep) x3 v2 (h3.now hC3.keep) x4 hr3) ?_
          intro _ w4 hv1
          obtain ⟨rfl, hB4⟩ := res_bool hv1
          have hC4 := hC3.grow hB4
          refine WL_nil ?_
          refine WA_take 6 rfl (by kernel_rfl) (by kernel_rfl) (by kernel_rfl) rfl (fl_not rfl) ?_
          refine WL_not rfl rfl ?_
          refine WL_nil ?_
          refine WA_take 7 rfl (by kernel_rfl) (by kernel_rfl) (by kernel_rfl) rfl (fl_move rfl) ?_
          refine WL_move rfl rfl ?_
          refine WL_nil ?_
          refine WA_fork (fun hc2 => ?_) (fun hc2 => ?_)
          · replace hr2 := ite_t hr2 hc2
            refine WA_skip 8 rfl (by kernel_rfl) (by kernel_rfl) (by kernel_rfl) rfl rfl rfl (by simp) rfl rfl ?_
            refine WA_skip 9 rfl (by kernel_rfl) (by kernel_rfl) (by kernel_rfl) rfl rfl rfl (by simp) rfl rfl ?_
            refine WA_skip 10 rfl (by kernel_rfl) (by kernel_rfl) (by kernel_rfl) rfl rfl rfl (by simp) rfl rfl ?_
            refine WA_skip 11 rfl (by kernel_rfl) (by kernel_rfl) (by kernel_rfl) rfl rfl rfl (by simp [undef]) rfl rfl ?_
            refine WA_skip 12 rfl (by kernel_rfl) (by kernel_rfl) (by kernel_rfl) rfl rfl rfl (by simp [undef]) rfl rfl ?_
            refine WA_skip 13 rfl (by kernel_rfl) (by kernel_rfl) (by kernel_rfl) rfl rfl rfl (by simp [undef]) rfl rfl ?_
            refine WA_skip 14 rfl (by kernel_rfl) (by kernel_rfl) (by kernel_rfl) rfl rfl rfl (by simp [undef]) rfl rfl ?_
            refine WA_skip 15 rfl (by kernel_rfl) (by kernel_rfl) (by kernel_rfl) rfl rfl rfl (by simp [undef]) rfl rfl ?_
            refine WA_skip 16 rfl (by kernel_rfl) (by kernel_rfl) (by kernel_rfl) rfl rfl rfl (by simp [undef]) rfl rfl ?_
            refine WA_skip 17 rfl (by kernel_rfl) (by kernel_rfl) (by kernel_rfl) rfl rfl rfl (by simp [undef]) rfl rfl ?_
            refine WA_skip 18 rfl (by kernel_rfl) (by kernel_rfl) (by kernel_rfl) rfl rfl rfl (by simp [undef]) rfl rfl ?_
            refine WA_skip 19 rfl (by kernel_rfl) (by kernel_rfl) (by kernel_rfl) rfl rfl rfl (by simp [undef]) rfl rfl ?_
            refine WA_skip 20 rfl (by kernel_rfl) (by kernel_rfl) (by kernel_rfl) rfl rfl rfl (by simp [undef]) rfl rfl ?_
            refine WA_skip 21 rfl (by kernel_rfl) (by kernel_rfl) (by kernel_rfl) rfl rfl rfl (by simp [undef]) rfl rfl ?_
            refine WA_skip 22 rfl (by kernel_rfl) (by kernel_rfl) (by kernel_rfl) rfl rfl rfl (by simp) rfl rfl ?_
            refine WA_take 23 rfl (by kernel_rfl) (by kernel_rfl) (by kernel_rfl) rfl (fl_pick_t rfl rfl) ?_
            refine WL_pick_t rfl rfl rfl ?_
            refine WL_nil ?_
            refine WA_done (by kernel_rfl) ?_
            have hq1 := Option.some.inj hr2
            subst hq1
            refine nrm_sub (l' := [(0, u1), (1, u2), (5, (.int .i64 x1)), (35, (.bool true))]) ⟨rfl, rfl, rfl, rfl, trivial⟩ ?_
            exact ⟨true, rfl, rfl, ((Keep.of hB3).then hB4).below, hC4⟩
          · replace hr2 := ite_f hr2 hc2
            refine WA_takeG 8 rfl (by kernel_rfl) (by kernel_rfl) (by kernel_rfl) rfl rfl rfl (fl_move rfl) ?_
            refine WL_guard rfl rfl ?_
            refine WL_move rfl rfl ?_
            refine WL_nil ?_
            refine WA_takeG 9 rfl (by kernel_rfl) (by kernel_rfl) (by kernel_rfl) rfl rfl rfl (fl_gtr rfl rfl) ?_
            refine WL_guard rfl rfl ?_
            refine WL_gtr rfl rfl rfl ?_
            refine WL_nil ?_
            refine WA_takeG 10 rfl (by kernel_rfl) (by kernel_rfl) (by kernel_rfl) rfl rfl rfl (fl_move rfl) ?_
            refine WL_guard rfl rfl ?_
            refine WL_move rfl rfl ?_
            refine WL_nil ?_
            refine WA_fork (fun hc3 => ?_) (fun hc3 => ?_)
            · replace hr2 := ite_t hr2 hc3
              refine WA_takeG 11 rfl (by kernel_rfl) (by kernel_rfl) (by kernel_rfl) rfl rfl rfl (fl_move rfl) ?_
              refine WL_guard rfl rfl ?_
              refine WL_move rfl rfl ?_
              refine WL_nil ?_
              refine WA_takeG 12 rfl (by kernel_rfl) (by kernel_rfl) (by kernel_rfl) rfl rfl rfl (fl_move rfl) ?_
              refine WL_guard rfl rfl ?_
              refine WL_move rfl rfl ?_
              refine WL_nil ?_
              refine WA_takeG 13 rfl (by kernel_rfl) (by kernel_rfl) (by kernel_rfl) rfl rfl rfl (fl_sub rfl rfl) ?_
              refine WL_guard rfl rfl ?_
              refine WL_sub rfl rfl rfl ?_
              refine WL_nil ?_
              obtain ⟨x5, hx2, hr2⟩ := bind_some hr2
              refine WA_takeG 14 rfl (by kernel_rfl) (by kernel_rfl) (by kernel_rfl) rfl rfl rfl (fl_index Try.underlying100 ty165 g2 hx2 rfl rfl) ?_
              refine WL_guard rfl rfl ?_
              refine WL_index Try.underlying100 ty165 g2 hx2 rfl rfl rfl (fun b2 o2 h4 => ?_)
              refine WL_nil ?_
              refine WA_takeG 16 rfl (by kernel_rfl) (by kernel_rfl) (by kernel_rfl) rfl rfl rfl (fl_move rfl) ?_
              refine WL_guard rfl rfl ?_
              refine WL_move rfl rfl ?_
              refine WL_nil ?_
              refine WA_takeG 17 rfl (by kernel_rfl) (by kernel_rfl) (by kernel_rfl) rfl rfl rfl (fl_move rfl) ?_
              refine WL_guard rfl rfl ?_
              refine WL_move rfl rfl ?_
              refine WL_nil ?_
              obtain ⟨x6, hx3, hr2⟩ := bind_some hr2
              refine WA_takeG 18 rfl (by kernel_rfl) (by kernel_rfl) (by kernel_rfl) rfl rfl rfl (fl_index Try.underlying100 ty165 g2 hx3 rfl rfl) ?_
              refine WL_guard rfl rfl ?_
              refine WL_index Try.underlying100 ty165 g2 hx3 rfl rfl rfl (fun b3 o3 h5 => ?_)
              refine WL_nil ?_
              refine WA.sub (l' := [(0, u1), (1, u2), (5, (.int .i64 x1)), (6, (.int .i64 x1)), (7, u2), (8, (.int .i64 (List.length a2 : Int))), (9, (.bool (decide (x1 < (List.length a2 : Int))))), (12, u1), (13, u2), (14, (.int .i64 x1)), (15, (ptr b1 o1)), (16, (.agg #[(.int .i64 x3.1), v2])), (17, (.bool x4)), (18, (.bool (!x4))), (19, (.bool false)), (20, (.int .i64 x1)), (21, (.bool (decide (0 < x1)))), (22, (.bool true)), (23, u2), (24, (.int .i64 x1)), (25, (.int .i64 (w64 (x1 - 1)))), (26, (ptr b2 o2)), (28, u2), (29, (.int .i64 x1)), (30, (ptr b3 o3))]) ?_ ⟨rfl, rfl, rfl, rfl, rfl, rfl, rfl, rfl, rfl, rfl, rfl, rfl, rfl, rfl, rfl, rfl, rfl, rfl, rfl, rfl, rfl, rfl, rfl, rfl, rfl, trivial⟩
              refine WA_postsE [⟨15, [], fun vs => PW.ro [] w0 x5, []⟩, ⟨19, [], fun vs => PW.ro [] w0 x6, []⟩] [[], []] 4 rfl (by kernel_rfl) (by kernel_rfl) rfl ?_ ?_
              · refine StepsE_cons rfl ?_ ?_
                · intro w5 hB5
                  refine DepsE_nil ?_
                  refine ⟨_, rfl, ?_⟩
                  refine WL_guard rfl rfl ?_
                  refine WL_load ty165 h4 (hC4.keep.then hB5) rfl rfl (fun v5 h8 => ?_)
                  refine WL_nil ?_
                  exact FinE_val (Below.refl _ _) rfl rfl ⟨rfl, h8⟩
                refine StepsE_cons rfl ?_ ?_
                · intro w5 hB5
                  refine DepsE_nil ?_
                  refine ⟨_, rfl, ?_⟩
                  refine WL_guard rfl rfl ?_
                  refine WL_load ty165 h5 (hC4.keep.then hB5) rfl rfl (fun v8 h11 => ?_)
                  refine WL_nil ?_
                  exact FinE_val (Below.refl _ _) rfl rfl ⟨rfl, h11⟩
                exact StepsE_nil
              · intro w6 hB6
                refine AllE_cons rfl rfl rfl ?_
                rintro v5 _ ⟨rfl, h8⟩
                obtain ⟨v4, rfl, h7⟩ := ro_st165 h8
                refine AllE_cons rfl rfl rfl ?_
                rintro v8 _ ⟨rfl, h11⟩
                obtain ⟨v7, rfl, h10⟩ := ro_st165 h11
                refine AllE_nil ?_
                intro hn1 hb1
                have hC5 := hC4.grow hB6
                obtain ⟨x7, hr4, hr2⟩ := bind_some hr2
                refine WA_one 20 (by kernel_rfl) rfl ?_
                refine WL_guard rfl rfl ?_
                refine WL_call Try.call145 rfl rfl (c_S_CompareFacts x5 v4 (h7.now hC5.keep) x6 v7 (h10.now hC5.keep) x7 hr4) ?_
                intro _ w7 hv2
                obtain ⟨rfl, hB7⟩ := res_int hv2
                have hC6 := hC5.grow hB7
                refine WL_nil ?_
                refine WA_takeG 21 rfl (by kernel_rfl) (by kernel_rfl) (by kernel_rfl) rfl rfl rfl (fl_geq rfl rfl) ?_
                refine WL_guard rfl rfl ?_
                refine WL_geq rfl rfl rfl ?_
                refine WL_nil ?_
                refine WA_takeG 22 rfl (by kernel_rfl) (by kernel_rfl) (by kernel_rfl) rfl rfl rfl (fl_pick_t rfl rfl) ?_
                refine WL_guard rfl rfl ?_
                refine WL_pick_t rfl rfl rfl ?_
                refine WL_nil ?_
                refine WA_take 23 rfl (by kernel_rfl) (by kernel_rfl) (by kernel_rfl) rfl (fl_pick_f rfl rfl) ?_
                refine WL_pick_f rfl rfl rfl ?_
                refine WL_nil ?_
                refine WA_done (by kernel_rfl) ?_
                have hq2 := Option.some.inj hr2
                subst hq2
                refine nrm_sub (l' := [(0, u1), (1, u2), (5, (.int .i64 x1)), (35, (.bool (decide (0 ≤ x7))))]) ⟨rfl, rfl, rfl, rfl, trivial⟩ ?_
                exact ⟨(decide (0 ≤ x7)), rfl, rfl, ((((Keep.of hB3).then hB4).then hB6).then hB7).below, hC6⟩
            · replace hr2 := ite_f hr2 hc3
              refine WA_skip 11 rfl (by kernel_rfl) (by kernel_rfl) (by kernel_rfl) rfl rfl rfl (by simp) rfl rfl ?_
              refine WA_skip 12 rfl (by kernel_rfl) (by kernel_rfl) (by kernel_rfl) rfl rfl rfl (by simp) rfl rfl ?_
              refine WA_skip 13 rfl (by kernel_rfl) (by kernel_rfl) (by kernel_rfl) rfl rfl rfl (by simp) rfl rfl ?_
              refine WA_skip 14 rfl (by kernel_rfl) (by kernel_rfl) (by kernel_rfl) rfl rfl rfl (by simp) rfl rfl ?_
              refine WA_skip 15 rfl (by kernel_rfl) (by kernel_rfl) (by kernel_rfl) rfl rfl rfl (by simp) rfl rfl ?_
              refine WA_skip 16 rfl (by kernel_rfl) (by kernel_rfl) (by kernel_rfl) rfl rfl rfl (by simp) rfl rfl ?_
              refine WA_skip 17 rfl (by kernel_rfl) (by kernel_rfl) (by kernel_rfl) rfl rfl rfl (by simp) rfl rfl ?_
              refine WA_skip 18 rfl (by kernel_rfl) (by kernel_rfl) (by kernel_rfl) rfl rfl rfl (by simp) rfl rfl ?_
              refine WA_skip 19 rfl (by kernel_rfl) (by kernel_rfl) (by kernel_rfl) rfl rfl rfl (by simp) rfl rfl ?_
              refine WA_skip 20 rfl (by kernel_rfl) (by kernel_rfl) (by kernel_rfl) rfl rfl rfl (by simp) rfl rfl ?_
              refine WA_skip 21 rfl (by kernel_rfl) (by kernel_rfl) (by kernel_rfl) rfl rfl rfl (by simp) rfl rfl ?_
              refine WA_takeG 22 rfl (by kernel_rfl) (by kernel_rfl) (by kernel_rfl) rfl rfl rfl (fl_pick_f rfl rfl) ?_
              refine WL_guard rfl rfl ?_
              refine WL_pick_f rfl rfl rfl ?_
              refine WL_nil ?_
              refine WA_take 23 rfl (by kernel_rfl) (by kernel_rfl) (by kernel_rfl) rfl (fl_pick_f rfl rfl) ?_
              refine WL_pick_f rfl rfl rfl ?_
              refine WL_nil ?_
              refine WA_done (by kernel_rfl) ?_
              have hq3 := Option.some.inj hr2
              subst hq3
              refine nrm_sub (l' := [(0, u1), (1, u2), (5, (.int .i64 x1)), (35, (.bool false))]) ⟨rfl, rfl, rfl, rfl, trivial⟩ ?_
              exact ⟨false, rfl, rfl, ((Keep.of hB3).then hB4).below, hC4⟩
        · rintro _ w2 ⟨x2, rfl, rfl, hB2, hC2⟩
          try dsimp only at hL1
          refine W_cond rfl (fun hc4 => ?_) (fun hc4 => ?_)
          · replace hL1 := ite_t hL1 hc4
            refine W_seq_reg ?_
            refine WL_assign rfl rfl ?_
            refine WL_nil ?_
            refine W_ret ?_
            refine blk_ret ?_
            refine nrm_ret ?_
            refine nrm_ret ?_
            refine blk_ret ?_
            refine nrm_ret ?_
            refine nrm_ret ?_
            have hq4 := Option.some.inj hL1
            subst hq4
            dsimp only at hF
            have hq5 := Option.some.inj hF
            subst hq5
            refine fn_ret1 rfl rfl ?_
            exact ⟨_, rfl, bool_res hC2 _⟩
          · replace hL1 := ite_f hL1 hc4
            refine W_skip ?_
            refine blk_normal ?_
            refine nrm_normal ?_
            refine W_reg ?_
            refine WL_move rfl rfl ?_
            refine WL_add rfl rfl rfl ?_
            refine WL_assign rfl rfl ?_
            refine WL_nil ?_
            refine nrm_sub (l' := [(0, u1), (1, u2), (5, (.int .i64 (w64 (x1 + 1))))]) ⟨rfl, rfl, rfl, trivial⟩ ?_
            exact ⟨k1, Nat.lt_succ_self _, w64 (x1 + 1), rfl, ((Keep.of hB1).then hB2).below, hC2, hL1⟩
      · replace hL1 := ite_f hL1 hc1
        refine W_exit ?_
        refine nrm_exit ?_
        refine nrm_exit ?_
        refine blk_exit ?_
        have hq6 := Option.some.inj hL1
        subst hq6
        refine nrm_sub (l' := [(0, u1), (1, u2)]) ⟨rfl, rfl, trivial⟩ ?_
        exact ⟨rfl, rfl, (Keep.of hB1).below, hC1⟩
  · rintro l3 _ w8 hs3 ⟨rfl, rfl, hB8, hC7⟩
    try dsimp only at hF
    refine nrm_sub' hs3 ?_
    clear hs3
    obtain ⟨r3, hr5, hF⟩ := bind_some hF
    refine W_cut (fun l w => ∃ x8 : Bool, x8 = r3 ∧ l = [(4, (.bool x8))] ∧ Below w8.heap.size w8 w ∧ Ctx [] w0 w []) ?_ ?_
    · refine W_reg ?_
      refine WL_move rfl rfl ?_
      obtain ⟨x9, hr6, hr5⟩ := bind_some hr5
      refine WL_call Try.call146 rfl rfl (c_S_IsSchema a1 u1 (g1.now hC7.keep) x9 hr6) ?_
      intro _ w10 hv3
      obtain ⟨rfl, hB10⟩ := res_bool hv3
      have hC9 := hC7.grow hB10
      refine WL_move rfl rfl ?_
      refine WL_fork (fun hc5 => ?_) (fun hc5 => ?_)
      · replace hr5 := ite_t hr5 hc5
        refine WL_guard rfl rfl ?_
        refine WL_move rfl rfl ?_
        refine WL_guard rfl rfl ?_
        refine WL_len Try.underlying100 g2 rfl rfl ?_
        refine WL_guard rfl rfl ?_
        refine WL_leq rfl rfl rfl ?_
        refine WL_pick_t rfl rfl rfl ?_
        refine WL_assign rfl rfl ?_
        refine WL_nil ?_
        have hq7 := Option.some.inj hr5
        subst hq7
        refine nrm_sub (l' := [(4, (.bool (decide ((List.length a2 : Int) ≤ 24))))]) ⟨rfl, trivial⟩ ?_
        exact ⟨(decide ((List.length a2 : Int) ≤ 24)), rfl, rfl, (Keep.of hB10).below, hC9⟩
      · replace hr5 := ite_f hr5 hc5
        refine WL_guard_skip rfl rfl (by simp) rfl ?_
        refine WL_guard_skip rfl rfl (by simp) rfl ?_
        refine WL_guard_skip rfl rfl (by simp) rfl ?_
        refine WL_pick_f rfl rfl rfl ?_
        refine WL_assign rfl rfl ?_
        refine WL_nil ?_
        have hq8 := Option.some.inj hr5
        subst hq8
        refine nrm_sub (l' := [(4, (.bool false))]) ⟨rfl, trivial⟩ ?_
        exact ⟨false, rfl, rfl, (Keep.of hB10).below, hC9⟩
    · rintro _ w9 ⟨x8, rfl, rfl, hB9, hC8⟩
      try dsimp only at hF
      refine W_ret ?_
      have hq9 := Option.some.inj hF
      subst hq9
      refine fn_ret1 rfl rfl ?_
      exact ⟨_, rfl, bool_res hC8 _⟩

theorem c_S_IsSource {w0 : World} (a1 : (List Int)) (u1 : Value) (g1 : RO [] w0 u1 a1) (a2 : ((List (Int × (List Int))) × Int)) (u2 : Value) (g2 : RO [] w0 u2 a2.1) (rr : Bool) (hF : S.IsSource a1 a2 = some rr) :
    Calls Try.prog 65 [u1, (.agg #[u2, (.int .i64 a2.2)])].toArray w0 fun e w' => ∃ v, e = .returned v ∧ Res w0 rr v w' := by
  refine calls_of_W Try.func65 rfl rfl ?_
  have hC0 := Ctx.start w0
  unfold S.IsSource at hF
  refine W_seq_reg ?_
  refine WL_box (cs := [u2, (.int .i64 a2.2)]) hC0 rfl rfl rfl (fun b1 w1 hC1 hB1 => ?_)
  refine WL_assign rfl rfl ?_
  refine WL_nil ?_
  obtain ⟨r1, hr1, hF⟩ := bind_some hF
  refine W_cut (fun l w => ∃ x1 : Bool, x1 = r1 ∧ l = [(4, (.bool x1))] ∧ Below w1.heap.size w1 w ∧ Ctx [] w0 w []) ?_ ?_
  · refine W_reg ?_
    refine WL_move rfl rfl ?_
    refine WL_field Try.underlying102 rfl rfl (fun w => ⟨_, Try.sizeOf100 w⟩) rfl rfl ?_
    refine WL_load_box hC1 0 rfl rfl Try.isAgg100 rfl rfl ?_
    obtain ⟨x2, hr2, hr1⟩ := bind_some hr1
    refine WL_call Try.call119 rfl rfl (c_S_AreFacts a1 u1 (g1.now hC1.keep) a2.1 u2 (g2.now hC1.keep) x2 hr2) ?_
    intro _ w3 hv1
    obtain ⟨rfl, hB3⟩ := res_bool hv1
    have hC3 := hC1.grow hB3
    refine WL_move rfl rfl ?_
    refine WL_fork (fun hc1 => ?_) (fun hc1 => ?_)
    · replace hr1 := ite_t hr1 hc1
      refine WL_guard rfl rfl ?_
      refine WL_field Try.underlying102 rfl rfl (fun w => ⟨_, Try.sizeOf3 w⟩) rfl rfl ?_
      refine WL_guard rfl rfl ?_
      refine WL_load_box hC3 0 rfl rfl Try.isAgg3 rfl rfl ?_
      obtain ⟨x3, hr3, hr1⟩ := bind_some hr1
      refine WL_guard rfl rfl ?_
      refine WL_call Try.call90 rfl rfl (c_S_l1In a2.2 0 1000 x3 hr3) ?_
      intro _ w4 hv2
      obtain ⟨rfl, hB4⟩ := res_bool hv2
      have hC4 := hC3.grow hB4
      refine WL_pick_t rfl rfl rfl ?_
      refine WL_assign rfl rfl ?_
      refine WL_nil ?_
      have hq1 := Option.some.inj hr1
      subst hq1
      have hC5 : Ctx [] w0 _ [] := hC4.headN 0
      refine nrm_sub (l' := [(4, (.bool x3))]) ⟨rfl, trivial⟩ ?_
      exact ⟨x3, rfl, rfl, ((Keep.of hB3).then hB4).below, hC5⟩
    · replace hr1 := ite_f hr1 hc1
      refine WL_guard_skip rfl rfl (by simp) rfl ?_
      refine WL_guard_skip rfl rfl (by simp) rfl ?_
      refine WL_guard_skip rfl rfl (by simp) rfl ?_
      refine WL_pick_f rfl rfl rfl ?_
      refine WL_assign rfl rfl ?_
      refine WL_nil ?_
      have hq2 := Option.some.inj hr1
      subst hq2
      have hC6 : Ctx [] w0 _ [] := hC3.headN 0
      refine nrm_sub (l' := [(4, (.bool false))]) ⟨rfl, trivial⟩ ?_
      exact ⟨false, rfl, rfl, (Keep.of hB3).below, hC6⟩
  · rintro _ w2 ⟨x1, rfl, rfl, hB2, hC2⟩
    try dsimp only at hF
    refine W_ret ?_
    have hq3 := Option.some.inj hF
    subst hq3
    refine fn_ret1 rfl rfl ?_
    exact ⟨_, rfl, bool_res hC2 _⟩

theorem c_Q_toSource {w0 : World} (a1 : ((List (Int × (List Int))) × Int)) (u1 : Value) (g1 : RO [] w0 u1 a1.1) (rr : ((List (Int × (List Int))) × Int)) (hF : Q.toSource a1 = some rr) :
    Calls Try.prog 66 [(.agg #[u1, (.int .i64 a1.2)])].toArray w0 fun e w' => ∃ v, e = .returned v ∧ Res w0 rr v w' := by
  refine calls_of_W Try.func66 rfl rfl ?_
  have hC0 := Ctx.start w0
  unfold Q.toSource at hF
  refine W_seq_reg ?_
  refine WL_box (cs := [u1, (.int .i64 a1.2)]) hC0 rfl rfl rfl (fun b1 w1 hC1 hB1 => ?_)
  refine WL_alloc hC1 zero102 rfl rfl (fun b2 w2 hC2 hB2 => ?_)
  refine WL_nil ?_
  refine W_seq_reg ?_
  refine WL_alloc hC2 zero102 rfl rfl (fun b3 w3 hC3 hB3 => ?_)
  refine WL_nil ?_
  refine W_seq_reg ?_
  refine WL_field Try.underlying97 rfl rfl (fun w => ⟨_, Try.sizeOf95 w⟩) rfl rfl ?_
  refine WL_load_box hC3 2 rfl rfl Try.isAgg95 rfl rfl ?_
  obtain ⟨x1, hr1, hF⟩ := bind_some hF
  refine WL_call Try.call83 rfl rfl (c_Q_toFactS a1.1 u1 (g1.now hC3.keep) x1 hr1) ?_
  rintro v1 w4 ⟨hB4, F1, hv1, hn1, hb1⟩
  have hC4 := hC3.push hB4 (A := Item.own v1 x1) hv1 hn1 hb1
  refine WL_field Try.underlying102 rfl rfl (fun w => ⟨_, Try.sizeOf100 w⟩) rfl rfl ?_
  refine WL_store_box (cs' := [v1, (.int .i64 0)]) hC4 1 rfl rfl (ro_one (hC4.ro 0 rfl)) rfl Try.sizeOf100 rfl rfl (fun w5 hC5 => ?_)
  try dsimp only [List.set] at hC5
  refine WL_nil ?_
  refine W_seq_reg ?_
  refine WL_field Try.underlying97 rfl rfl (fun w => ⟨_, Try.sizeOf3 w⟩) rfl rfl ?_
  refine WL_load_box hC5 3 rfl rfl Try.isAgg3 rfl rfl ?_
  refine WL_field Try.underlying102 rfl rfl (fun w => ⟨_, Try.sizeOf3 w⟩) rfl rfl ?_
  refine WL_store_box (cs' := [v1, (.int .i64 a1.2)]) hC5 1 rfl rfl rfl rfl Try.sizeOf3 rfl rfl (fun w6 hC6 => ?_)
  try dsimp only [List.set] at hC6
  refine WL_nil ?_
  refine W_seq_reg ?_
  refine WL_load_box_agg [v1, (.int .i64 a1.2)] hC6 1 rfl rfl rfl Try.isAgg102 Try.sizeOf102 rfl rfl ?_
  refine WL_store_box_agg (cs' := [v1, (.int .i64 a1.2)]) (new := [v1, (.int .i64 a1.2)]) hC6 2 rfl rfl (by intro v hv; simp only [List.mem_cons, List.not_mem_nil, or_false] at hv; rcases hv with rfl | rfl; exact (ro_one (hC6.ro 0 rfl)); exact rfl) rfl Try.sizeOf102 rfl rfl (fun w7 hC7 => ?_)
  try dsimp only [List.set] at hC7
  refine WL_nil ?_
  refine W_ret ?_
  have hq1 := Option.some.inj hF
  subst hq1
  refine fn_retG1 rfl (rv_cell_agg (cs' := [v1, (.int .i64 a1.2)]) hC7 (i := 2) rfl rfl rfl Try.isAgg102 Try.sizeOf102 rfl) ?_
  have hC8 := own_st102 v1 x1 a1.2 hC7
  exact ⟨_, rfl, own_res hC8 0 rfl⟩

theorem c_M_within {w0 : World} (a1 : Int) (a2 : Int) (a3 : Int) (rr : Bool) (hF : M.within a1 a2 a3 = some rr) :
    Calls Try.prog 97 [(.int .i64 a1), (.int .i64 a2), (.int .i64 a3)].toArray w0 fun e w' => ∃ v, e = .returned v ∧ Res w0 rr v w' := by
  refine calls_of_W Try.func97 rfl rfl ?_
  have hC0 := Ctx.start w0
  unfold M.within at hF
  refine W_seq_reg ?_
  refine WL_assign rfl rfl ?_
  refine WL_nil ?_
  obtain ⟨r1, hr1, hF⟩ := bind_some hF
  refine W_cut (fun l w => ∃ x1 : Bool, x1 = r1 ∧ l = [(6, (.bool x1))] ∧ Below w0.heap.size w0 w ∧ Ctx [] w0 w []) ?_ ?_
  · refine W_reg ?_
    refine WL_move rfl rfl ?_
    refine WL_move rfl rfl ?_
    refine WL_geq rfl rfl rfl ?_
    refine WL_move rfl rfl ?_
    refine WL_fork (fun hc1 => ?_) (fun hc1 => ?_)
    · replace hr1 := ite_t hr1 hc1
      refine WL_guard rfl rfl ?_
      refine WL_move rfl rfl ?_
      refine WL_guard rfl rfl ?_
      refine WL_move rfl rfl ?_
      refine WL_guard rfl rfl ?_
      refine WL_leq rfl rfl rfl ?_
      refine WL_pick_t rfl rfl rfl ?_
      refine WL_assign rfl rfl ?_
      refine WL_nil ?_
      have hq1 := Option.some.inj hr1
      subst hq1
      refine nrm_sub (l' := [(6, (.bool (decide (a1 ≤ a3))))]) ⟨rfl, trivial⟩ ?_
      exact ⟨(decide (a1 ≤ a3)), rfl, rfl, (Below.refl _ _), hC0⟩
    · replace hr1 := ite_f hr1 hc1
      refine WL_guard_skip rfl rfl (by simp) rfl ?_
      refine WL_guard_skip rfl rfl (by simp) rfl ?_
      refine WL_guard_skip rfl rfl (by simp) rfl ?_
      refine WL_pick_f rfl rfl rfl ?_
      refine WL_assign rfl rfl ?_
      refine WL_nil ?_
      have hq2 := Option.some.inj hr1
      subst hq2
      refine nrm_sub (l' := [(6, (.bool false))]) ⟨rfl, trivial⟩ ?_
      exact ⟨false, rfl, rfl, (Below.refl _ _), hC0⟩
  · rintro _ w1 ⟨x1, rfl, rfl, hB1, hC1⟩
    try dsimp only at hF
    refine W_ret ?_
    have hq3 := Option.some.inj hF
    subst hq3
    refine fn_ret1 rfl rfl ?_
    exact ⟨_, rfl, bool_res hC1 _⟩

theorem c_M_isValue {w0 : World} (a1 : Int) (rr : Bool) (hF : M.isValue a1 = some rr) :
    Calls Try.prog 189 [(.int .i64 a1)].toArray w0 fun e w' => ∃ v, e = .returned v ∧ Res w0 rr v w' := by
  refine calls_of_W Try.func189 rfl rfl ?_
  have hC0 := Ctx.start w0
  unfold M.isValue at hF
  refine W_seq_reg ?_
  refine WL_assign rfl rfl ?_
  refine WL_nil ?_
  refine W_seq_reg ?_
  refine WL_move rfl rfl ?_
  obtain ⟨x1, hr1, hF⟩ := bind_some hF
  refine WL_call Try.call97 rfl rfl (c_M_within a1 0 9 x1 hr1) ?_
  intro _ w1 hv1
  obtain ⟨rfl, hB1⟩ := res_bool hv1
  have hC1 := hC0.grow hB1
  refine WL_assign rfl rfl ?_
  refine WL_nil ?_
  refine W_ret ?_
  have hq1 := Option.some.inj hF
  subst hq1
  refine fn_ret1 rfl rfl ?_
  exact ⟨_, rfl, bool_res hC1 _⟩

theorem c_M_areValues_c1 {w0 : World} (a1 : Int) (rr : Bool) (hF : M.areValues_c1 a1 = some rr) :
    Calls Try.prog 188 [(.int .i64 a1)].toArray w0 fun e w' => ∃ v, e = .returned v ∧ Res w0 rr v w' := by
  refine calls_of_W Try.func188 rfl rfl ?_
  have hC0 := Ctx.start w0
  unfold M.areValues_c1 at hF
  refine W_seq_reg ?_
  refine WL_assign rfl rfl ?_
  refine WL_nil ?_
  refine W_seq_reg ?_
  refine WL_move rfl rfl ?_
  obtain ⟨x1, hr1, hF⟩ := bind_some hF
  refine WL_call Try.call189 rfl rfl (c_M_isValue a1 x1 hr1) ?_
  intro _ w1 hv1
  obtain ⟨rfl, hB1⟩ := res_bool hv1
  have hC1 := hC0.grow hB1
  refine WL_not rfl rfl ?_
  refine WL_assign rfl rfl ?_
  refine WL_nil ?_
  refine W_ret ?_
  have hq1 := Option.some.inj hF
  subst hq1
  refine fn_ret1 rfl rfl ?_
  exact ⟨_, rfl, bool_res hC1 _⟩

theorem c_Slices_IndexFunc_Lint_int_M_areValues_c1 {w0 : World} (a1 : (List Int)) (u1 : Value) (g1 : RO [] w0 u1 a1) (rr : Int) (hF : Slices.IndexFunc_Lint_int_M_areValues_c1 a1 = some rr) :
    Calls Try.prog 137 [u1, (.func (.func 188) #[] #[])].toArray w0 fun e w' => ∃ v, e = .returned v ∧ Res w0 rr v w' := by
  refine calls_of_W Try.func137 rfl rfl ?_
  have hC0 := Ctx.start w0
  unfold Slices.IndexFunc_Lint_int_M_areValues_c1 at hF
  refine W_seq_reg ?_
  refine WL_assign rfl rfl ?_
  refine WL_nil ?_
  refine W_seq ?_
  refine W_seq_reg ?_
  refine WL_move rfl rfl ?_
  refine WL_len Try.underlying22 g1 rfl rfl ?_
  refine WL_move rfl rfl ?_
  refine WL_nil ?_
  obtain ⟨r1, hr1, hF⟩ := bind_some hF
  refine W_norm (fun l w => .inl () = r1 ∧ l = [] ∧ Below w0.heap.size w0 w ∧ Ctx [] w0 w []) ?_ ?_
  · refine W_block ?_
    refine W.sub (l' := [(0, u1), (1, (.func (.func 188) #[] #[])), (7, (.int .i64 (List.length a1 : Int))), (8, (.int .i64 0))]) ?_ ⟨rfl, rfl, rfl, rfl, trivial⟩
    refine W_loop (fun k l w => ∃ x1 : Int, l = [(0, u1), (1, (.func (.func 188) #[] #[])), (7, (.int .i64 (List.length a1 : Int))), (8, (.int .i64 x1))] ∧ Below w0.heap.size w0 w ∧ Ctx [] w0 w [] ∧ Slices.IndexFunc_Lint_int_M_areValues_c1_l1 a1 k x1 = some r1) FUEL ⟨0, rfl, (Below.refl _ _), hC0, hr1⟩ ?_
    clear hr1
    rintro k1 _ w1 ⟨x1, rfl, hB1, hC1, hL1⟩
    cases k1 with
    | zero => rw [Slices.IndexFunc_Lint_int_M_areValues_c1_l1] at hL1; cases hL1
    | succ k1 =>
      rw [Slices.IndexFunc_Lint_int_M_areValues_c1_l1] at hL1
      refine W_seq_reg ?_
      refine WL_lss rfl rfl rfl ?_
      refine WL_nil ?_
      refine W_seq ?_
      refine W_cond rfl (fun hc1 => ?_) (fun hc1 => ?_)
      · replace hL1 := ite_t hL1 hc1
        refine W_skip ?_
        refine nrm_normal ?_
        refine W_seq ?_
        refine W_block ?_
        refine W_seq_reg ?_
        refine WL_move rfl rfl ?_
        refine WL_assign rfl rfl ?_
        refine WL_nil ?_
        refine W_seq_reg ?_
        refine WL_move rfl rfl ?_
        refine WL_move rfl rfl ?_
        refine WL_move rfl rfl ?_
        obtain ⟨x2, hx1, hL1⟩ := bind_some hL1
        refine WL_index Try.underlying22 ty3 g1 hx1 rfl rfl rfl (fun b1 o1 h1 => ?_)
        refine WL_load ty3 h1 hC1.keep rfl rfl (fun v1 h2 => ?_)
        obtain rfl := ro_int h2
        obtain ⟨x3, hr2, hL1⟩ := bind_some hL1
        refine WL_callv (cap := []) Try.call188 rfl rfl rfl (c_M_areValues_c1 x2 x3 hr2) ?_
        intro _ w2 hv1
        obtain ⟨rfl, hB2⟩ := res_bool hv1
        have hC2 := hC1.grow hB2
        refine WL_nil ?_
        refine W_cond rfl (fun hc2 => ?_) (fun hc2 => ?_)
        · replace hL1 := ite_t hL1 hc2
          refine W_seq_reg ?_
          refine WL_move rfl rfl ?_
          refine WL_assign rfl rfl ?_
          refine WL_nil ?_
          refine W_ret ?_
          refine blk_ret ?_
          refine nrm_ret ?_
          refine nrm_ret ?_
          refine blk_ret ?_
          refine nrm_ret ?_
          refine nrm_ret ?_
          have hq1 := Option.some.inj hL1
          subst hq1
          dsimp only at hF
          have hq2 := Option.some.inj hF
          subst hq2
          refine fn_ret1 rfl rfl ?_
          exact ⟨_, rfl, int_res hC2 _⟩
        · replace hL1 := ite_f hL1 hc2
          refine W_skip ?_
          refine blk_normal ?_
          refine nrm_normal ?_
          refine W_reg ?_
          refine WL_add rfl rfl rfl ?_
          refine WL_move rfl rfl ?_
          refine WL_nil ?_
          refine nrm_sub (l' := [(0, u1), (1, (.func (.func 188) #[] #[])), (7, (.int .i64 (List.length a1 : Int))), (8, (.int .i64 (w64 (x1 + 1))))]) ⟨rfl, rfl, rfl, rfl, trivial⟩ ?_
          exact ⟨k1, Nat.lt_succ_self _, w64 (x1 + 1), rfl, ((Keep.of hB1).then hB2).below, hC2, hL1⟩
      · replace hL1 := ite_f hL1 hc1
        refine W_exit ?_
        refine nrm_exit ?_
        refine nrm_exit ?_
        refine blk_exit ?_
        have hq3 := Option.some.inj hL1
        subst hq3
        refine nrm_sub (l' := []) trivial ?_
        exact ⟨rfl, rfl, (Keep.of hB1).below, hC1⟩
  · rintro l2 _ w3 hs2 ⟨rfl, rfl, hB3, hC3⟩
    try dsimp only at hF
    refine nrm_sub' hs2 ?_
    clear hs2
    refine W_seq_reg ?_
    refine WL_assign rfl rfl ?_
    refine WL_nil ?_
    refine W_ret ?_
    have hq4 := Option.some.inj hF
    subst hq4
    refine fn_ret1 rfl rfl ?_
    exact ⟨_, rfl, int_res hC3 _⟩

theorem c_Slices_ContainsFunc_Lint_int_M_areValues_c1 {w0 : World} (a1 : (List Int)) (u1 : Value) (g1 : RO [] w0 u1 a1) (rr : Bool) (hF : Slices.ContainsFunc_Lint_int_M_areValues_c1 a1 = some rr) :
    Calls Try.prog 102 [u1, (.func (.func 188) #[] #[])].toArray w0 fun e w' => ∃ v, e = .returned v ∧ Res w0 rr v w' := by
  refine calls_of_W Try.func102 rfl rfl ?_
  have hC0 := Ctx.start w0
  unfold Slices.ContainsFunc_Lint_int_M_areValues_c1 at hF
  refine W_seq_reg ?_
  refine WL_assign rfl rfl ?_
  refine WL_nil ?_
  refine W_seq_reg ?_
  refine WL_move rfl rfl ?_
  refine WL_move rfl rfl ?_
  obtain ⟨x1, hr1, hF⟩ := bind_some hF
  refine WL_call Try.call137 rfl rfl (c_Slices_IndexFunc_Lint_int_M_areValues_c1 a1 u1 (g1.now hC0.keep) x1 hr1) ?_
  intro _ w1 hv1
  obtain ⟨rfl, hB1⟩ := res_int hv1
  have hC1 := hC0.grow hB1
  refine WL_geq rfl rfl rfl ?_
  refine WL_assign rfl rfl ?_
  refine WL_nil ?_
  refine W_ret ?_
  have hq1 := Option.some.inj hF
  subst hq1
  refine fn_ret1 rfl rfl ?_
  exact ⟨_, rfl, bool_res hC1 _⟩

theorem c_M_areValues {w0 : World} (a1 : (List Int)) (u1 : Value) (g1 : RO [] w0 u1 a1) (rr : Bool) (hF : M.areValues a1 = some rr) :
    Calls Try.prog 152 [u1].toArray w0 fun e w' => ∃ v, e = .returned v ∧ Res w0 rr v w' := by
  refine calls_of_W Try.func152 rfl rfl ?_
  have hC0 := Ctx.start w0
  unfold M.areValues at hF
  refine W_seq_reg ?_
  refine WL_assign rfl rfl ?_
  refine WL_nil ?_
  refine W_seq_reg ?_
  refine WL_move rfl rfl ?_
  obtain ⟨x1, hr1, hF⟩ := bind_some hF
  refine WL_call Try.call102 rfl rfl (c_Slices_ContainsFunc_Lint_int_M_areValues_c1 a1 u1 (g1.now hC0.keep) x1 hr1) ?_
  intro _ w1 hv1
  obtain ⟨rfl, hB1⟩ := res_bool hv1
  have hC1 := hC0.grow hB1
  refine WL_not rfl rfl ?_
  refine WL_assign rfl rfl ?_
  refine WL_nil ?_
  refine W_ret ?_
  have hq1 := Option.some.inj hF
  subst hq1
  refine fn_ret1 rfl rfl ?_
  exact ⟨_, rfl, bool_res hC1 _⟩

theorem c_M_IsSchema_c1 {w0 : World} (a1 : Int) (rr : Bool) (hF : M.IsSchema_c1 a1 = some rr) :
    Calls Try.prog 183 [(.int .i64 a1)].toArray w0 fun e w' => ∃ v, e = .returned v ∧ Res w0 rr v w' := by
  refine calls_of_W Try.func183 rfl rfl ?_
  have hC0 := Ctx.start w0
  unfold M.IsSchema_c1 at hF
  refine W_seq_reg ?_
  refine WL_assign rfl rfl ?_
  refine WL_nil ?_
  refine W_seq_reg ?_
  refine WL_move rfl rfl ?_
  obtain ⟨x1, hr1, hF⟩ := bind_some hF
  refine WL_call Try.call97 rfl rfl (c_M_within a1 1 3 x1 hr1) ?_
  intro _ w1 hv1
  obtain ⟨rfl, hB1⟩ := res_bool hv1
  have hC1 := hC0.grow hB1
  refine WL_not rfl rfl ?_
  refine WL_assign rfl rfl ?_
  refine WL_nil ?_
  refine W_ret ?_
  have hq1 := Option.some.inj hF
  subst hq1
  refine fn_ret1 rfl rfl ?_
  exact ⟨_, rfl, bool_res hC1 _⟩

theorem c_Slices_IndexFunc_Lint_int_M_IsSchema_c1 {w0 : World} (a1 : (List Int)) (u1 : Value) (g1 : RO [] w0 u1 a1) (rr : Int) (hF : Slices.IndexFunc_Lint_int_M_IsSchema_c1 a1 = some rr) :
    Calls Try.prog 137 [u1, (.func (.func 183) #[] #[])].toArray w0 fun e w' => ∃ v, e = .returned v ∧ Res w0 rr v w' := by
  refine calls_of_W Try.func137 rfl rfl ?_
  have hC0 := Ctx.start w0
  unfold Slices.IndexFunc_Lint_int_M_IsSchema_c1 at hF
  refine W_seq_reg ?_
  refine WL_assign rfl rfl ?_
  refine WL_nil ?_
  refine W_seq ?_
  refine W_seq_reg ?_
  refine WL_move rfl rfl ?_
  refine WL_len Try.underlying22 g1 rfl rfl ?_
  refine WL_move rfl rfl ?_
  refine WL_nil ?_
  obtain ⟨r1, hr1, hF⟩ := bind_some hF
  refine W_norm (fun l w => .inl () = r1 ∧ l = [] ∧ Below w0.heap.size w0 w ∧ Ctx [] w0 w []) ?_ ?_
  · refine W_block ?_
    refine W.sub (l' := [(0, u1), (1, (.func (.func 183) #[] #[])), (7, (.int .i64 (List.length a1 : Int))), (8, (.int .i64 0))]) ?_ ⟨rfl, rfl, rfl, rfl, trivial⟩
    refine W_loop (fun k l w => ∃ x1 : Int, l = [(0, u1), (1, (.func (.func 183) #[] #[])), (7, (.int .i64 (List.length a1 : Int))), (8, (.int .i64 x1))] ∧ Below w0.heap.size w0 w ∧ Ctx [] w0 w [] ∧ Slices.IndexFunc_Lint_int_M_IsSchema_c1_l1 a1 k x1 = some r1) FUEL ⟨0, rfl, (Below.refl _ _), hC0, hr1⟩ ?_
    clear hr1
    rintro k1 _ w1 ⟨x1, rfl, hB1, hC1, hL1⟩
    cases k1 with
    | zero => rw [Slices.IndexFunc_Lint_int_M_IsSchema_c1_l1] at hL1; cases hL1
    | succ k1 =>
      rw [Slices.IndexFunc_Lint_int_M_IsSchema_c1_l1] at hL1
      refine W_seq_reg ?_
      refine WL_lss rfl rfl rfl ?_
      refine WL_nil ?_
      refine W_seq ?_
      refine W_cond rfl (fun hc1 => ?_) (fun hc1 => ?_)
      · replace hL1 := ite_t hL1 hc1
        refine W_skip ?_
        refine nrm_normal ?_
        refine W_seq ?_
        refine W_block ?_
        refine W_seq_reg ?_
        refine WL_move rfl rfl ?_
        refine WL_assign rfl rfl ?_
        refine WL_nil ?_
        refine W_seq_reg ?_
        refine WL_move rfl rfl ?_
        refine WL_move rfl rfl ?_
        refine WL_move rfl rfl ?_
        obtain ⟨x2, hx1, hL1⟩ := bind_some hL1
        refine WL_index Try.underlying22 ty3 g1 hx1 rfl rfl rfl (fun b1 o1 h1 => ?_)
        refine WL_load ty3 h1 hC1.keep rfl rfl (fun v1 h2 => ?_)
        obtain rfl := ro_int h2
        obtain ⟨x3, hr2, hL1⟩ := bind_some hL1
        refine WL_callv (cap := []) Try.call183 rfl rfl rfl (c_M_IsSchema_c1 x2 x3 hr2) ?_
        intro _ w2 hv1
        obtain ⟨rfl, hB2⟩ := res_bool hv1
        have hC2 := hC1.grow hB2
        refine WL_nil ?_
        refine W_cond rfl (fun hc2 => ?_) (fun hc2 => ?_)
        · replace hL1 := ite_t hL1 hc2
          refine W_seq_reg ?_
          refine WL_move rfl rfl ?_
          refine WL_assign rfl rfl ?_
          refine WL_nil ?_
          refine W_ret ?_
          refine blk_ret ?_
          refine nrm_ret ?_
          refine nrm_ret ?_
          refine blk_ret ?_
          refine nrm_ret ?_
          refine nrm_ret ?_
          have hq1 := Option.some.inj hL1
          subst hq1
          dsimp only at hF
          have hq2 := Option.some.inj hF
          subst hq2
          refine fn_ret1 rfl rfl ?_
          exact ⟨_, rfl, int_res hC2 _⟩
        · replace hL1 := ite_f hL1 hc2
          refine W_skip ?_
          refine blk_normal ?_
          refine nrm_normal ?_
          refine W_reg ?_
          refine WL_add rfl rfl rfl ?_
          refine WL_move rfl rfl ?_
          refine WL_nil ?_
          refine nrm_sub (l' := [(0, u1), (1, (.func (.func 183) #[] #[])), (7, (.int .i64 (List.length a1 : Int))), (8, (.int .i64 (w64 (x1 + 1))))]) ⟨rfl, rfl, rfl, rfl, trivial⟩ ?_
          exact ⟨k1, Nat.lt_succ_self _, w64 (x1 + 1), rfl, ((Keep.of hB1).then hB2).below, hC2, hL1⟩
      · replace hL1 := ite_f hL1 hc1
        refine W_exit ?_
        refine nrm_exit ?_
        refine nrm_exit ?_
        refine blk_exit ?_
        have hq3 := Option.some.inj hL1
        subst hq3
        refine nrm_sub (l' := []) trivial ?_
        exact ⟨rfl, rfl, (Keep.of hB1).below, hC1⟩
  · rintro l2 _ w3 hs2 ⟨rfl, rfl, hB3, hC3⟩
    try dsimp only at hF
    refine nrm_sub' hs2 ?_
    clear hs2
    refine W_seq_reg ?_
    refine WL_assign rfl rfl ?_
    refine WL_nil ?_
    refine W_ret ?_
    have hq4 := Option.some.inj hF
    subst hq4
    refine fn_ret1 rfl rfl ?_
    exact ⟨_, rfl, int_res hC3 _⟩

theorem c_Slices_ContainsFunc_Lint_int_M_IsSchema_c1 {w0 : World} (a1 : (List Int)) (u1 : Value) (g1 : RO [] w0 u1 a1) (rr : Bool) (hF : Slices.ContainsFunc_Lint_int_M_IsSchema_c1 a1 = some rr) :
    Calls Try.prog 102 [u1, (.func (.func 183) #[] #[])].toArray w0 fun e w' => ∃ v, e = .returned v ∧ Res w0 rr v w' := by
  refine calls_of_W Try.func102 rfl rfl ?_
  have hC0 := Ctx.start w0
  unfold Slices.ContainsFunc_Lint_int_M_IsSchema_c1 at hF
  refine W_seq_reg ?_
  refine WL_assign rfl rfl ?_
  refine WL_nil ?_
  refine W_seq_reg ?_
  refine WL_move rfl rfl ?_
  refine WL_move rfl rfl ?_
  obtain ⟨x1, hr1, hF⟩ := bind_some hF
  refine WL_call Try.call137 rfl rfl (c_Slices_IndexFunc_Lint_int_M_IsSchema_c1 a1 u1 (g1.now hC0.keep) x1 hr1) ?_
  intro _ w1 hv1
  obtain ⟨rfl, hB1⟩ := res_int hv1
  have hC1 := hC0.grow hB1
  refine WL_geq rfl rfl rfl ?_
  refine WL_assign rfl rfl ?_
  refine WL_nil ?_
  refine W_ret ?_
  have hq1 := Option.some.inj hF
  subst hq1
  refine fn_ret1 rfl rfl ?_
  exact ⟨_, rfl, bool_res hC1 _⟩

theorem c_M_IsSchema {w0 : World} (a1 : (List Int)) (u1 : Value) (g1 : RO [] w0 u1 a1) (rr : Bool) (hF : M.IsSchema a1 = some rr) :
    Calls Try.prog 149 [u1].toArray w0 fun e w' => ∃ v, e = .returned v ∧ Res w0 rr v w' := by
  refine calls_of_W Try.func149 rfl rfl ?_
  have hC0 := Ctx.start w0
  unfold M.IsSchema at hF
  refine W_seq_reg ?_
  refine WL_assign rfl rfl ?_
  refine WL_nil ?_
  obtain ⟨r1, hr1, hF⟩ := bind_some hF
  refine W_cut (fun l w => ∃ x1 : Bool, x1 = r1 ∧ l = [(2, (.bool x1))] ∧ Below w0.heap.size w0 w ∧ Ctx [] w0 w []) ?_ ?_
  · refine W_reg ?_
    refine WL_move rfl rfl ?_
    refine WL_len Try.underlying22 g1 rfl rfl ?_
    obtain ⟨x2, hr2, hr1⟩ := bind_some hr1
    refine WL_call Try.call97 rfl rfl (c_M_within (List.length a1 : Int) 1 3 x2 hr2) ?_
    intro _ w2 hv1
    obtain ⟨rfl, hB2⟩ := res_bool hv1
    have hC2 := hC0.grow hB2
    refine WL_move rfl rfl ?_
    refine WL_fork (fun hc1 => ?_) (fun hc1 => ?_)
    · replace hr1 := ite_t hr1 hc1
      refine WL_guard rfl rfl ?_
      refine WL_move rfl rfl ?_
      obtain ⟨x3, hr3, hr1⟩ := bind_some hr1
      refine WL_guard rfl rfl ?_
      refine WL_call Try.call102 rfl rfl (c_Slices_ContainsFunc_Lint_int_M_IsSchema_c1 a1 u1 (g1.now hC2.keep) x3 hr3) ?_
      intro _ w3 hv2
      obtain ⟨rfl, hB3⟩ := res_bool hv2
      have hC3 := hC2.grow hB3
      refine WL_guard rfl rfl ?_
      refine WL_not rfl rfl ?_
      refine WL_pick_t rfl rfl rfl ?_
      refine WL_assign rfl rfl ?_
      refine WL_nil ?_
      have hq1 := Option.some.inj hr1
      subst hq1
      refine nrm_sub (l' := [(2, (.bool (!x3)))]) ⟨rfl, trivial⟩ ?_
      exact ⟨(!x3), rfl, rfl, ((Keep.of hB2).then hB3).below, hC3⟩
    · replace hr1 := ite_f hr1 hc1
      refine WL_guard_skip rfl rfl (by simp) rfl ?_
      refine WL_guard_skip rfl rfl (by simp) rfl ?_
      refine WL_guard_skip rfl rfl (by simp) rfl ?_
      refine WL_pick_f rfl rfl rfl ?_
      refine WL_assign rfl rfl ?_
      refine WL_nil ?_
      have hq2 := Option.some.inj hr1
      subst hq2
      refine nrm_sub (l' := [(2, (.bool false))]) ⟨rfl, trivial⟩ ?_
      exact ⟨false, rfl, rfl, (Keep.of hB2).below, hC2⟩
  · rintro _ w1 ⟨x1, rfl, rfl, hB1, hC1⟩
    try dsimp only at hF
    refine W_ret ?_
    have hq3 := Option.some.inj hF
    subst hq3
    refine fn_ret1 rfl rfl ?_
    exact ⟨_, rfl, bool_res hC1 _⟩

theorem c_M_hasRel {w0 : World} (a1 : (List Int)) (u1 : Value) (g1 : RO [] w0 u1 a1) (a2 : Int) (rr : Bool) (hF : M.hasRel a1 a2 = some rr) :
    Calls Try.prog 179 [u1, (.int .i64 a2)].toArray w0 fun e w' => ∃ v, e = .returned v ∧ Res w0 rr v w' := by
  refine calls_of_W Try.func179 rfl rfl ?_
  have hC0 := Ctx.start w0
  unfold M.hasRel at hF
  refine W_seq_reg ?_
  refine WL_assign rfl rfl ?_
  refine WL_nil ?_
  obtain ⟨r1, hr1, hF⟩ := bind_some hF
  refine W_cut (fun l w => ∃ x1 : Bool, x1 = r1 ∧ l = [(4, (.bool x1))] ∧ Below w0.heap.size w0 w ∧ Ctx [] w0 w []) ?_ ?_
  · refine W_reg ?_
    refine WL_move rfl rfl ?_
    obtain ⟨x2, hr2, hr1⟩ := bind_some hr1
    refine WL_call Try.call149 rfl rfl (c_M_IsSchema a1 u1 (g1.now hC0.keep) x2 hr2) ?_
    intro _ w2 hv1
    obtain ⟨rfl, hB2⟩ := res_bool hv1
    have hC2 := hC0.grow hB2
    refine WL_move rfl rfl ?_
    refine WL_fork (fun hc1 => ?_) (fun hc1 => ?_)
    · replace hr1 := ite_t hr1 hc1
      refine WL_guard rfl rfl ?_
      refine WL_move rfl rfl ?_
      refine WL_guard rfl rfl ?_
      refine WL_move rfl rfl ?_
      refine WL_guard rfl rfl ?_
      refine WL_len Try.underlying22 g1 rfl rfl ?_
      refine WL_guard rfl rfl ?_
      refine WL_sub rfl rfl rfl ?_
      obtain ⟨x3, hr3, hr1⟩ := bind_some hr1
      refine WL_guard rfl rfl ?_
      refine WL_call Try.call97 rfl rfl (c_M_within a2 0 (w64 ((List.length a1 : Int) - 1)) x3 hr3) ?_
      intro _ w3 hv2
      obtain ⟨rfl, hB3⟩ := res_bool hv2
      have hC3 := hC2.grow hB3
      refine WL_pick_t rfl rfl rfl ?_
      refine WL_assign rfl rfl ?_
      refine WL_nil ?_
      have hq1 := Option.some.inj hr1
      subst hq1
      refine nrm_sub (l' := [(4, (.bool x3))]) ⟨rfl, trivial⟩ ?_
      exact ⟨x3, rfl, rfl, ((Keep.of hB2).then hB3).below, hC3⟩
    · replace hr1 := ite_f hr1 hc1
      refine WL_guard_skip rfl rfl (by simp) rfl ?_
      refine WL_guard_skip rfl rfl (by simp) rfl ?_
      refine WL_guard_skip rfl rfl (by simp) rfl ?_
      refine WL_guard_skip rfl rfl (by simp) rfl ?_
      refine WL_guard_skip rfl rfl (by simp) rfl ?_
      refine WL_pick_f rfl rfl rfl ?_
      refine WL_assign rfl rfl ?_
      refine WL_nil ?_
      have hq2 := Option.some.inj hr1
      subst hq2
      refine nrm_sub (l' := [(4, (.bool false))]) ⟨rfl, trivial⟩ ?_
      exact ⟨false, rfl, rfl, (Keep.of hB2).below, hC2⟩
  · rintro _ w1 ⟨x1, rfl, rfl, hB1, hC1⟩
    try dsimp only at hF
    refine W_ret ?_
    have hq3 := Option.some.inj hF
    subst hq3
    refine fn_ret1 rfl rfl ?_
    exact ⟨_, rfl, bool_res hC1 _⟩

theorem c_M_IsFact {w0 : World} (a1 : (List Int)) (u1 : Value) (g1 : RO [] w0 u1 a1) (a2 : (Int × (List Int))) (u2 : Value) (g2 : RO [] w0 u2 a2.2) (rr : Bool) (hF : M.IsFact a1 a2 = some rr) :
    Calls Try.prog 147 [u1, (.agg #[(.int .i64 a2.1), u2])].toArray w0 fun e w' => ∃ v, e = .returned v ∧ Res w0 rr v w' := by
  refine calls_of_W Try.func147 rfl rfl ?_
  have hC0 := Ctx.start w0
  unfold M.IsFact at hF
  refine W_seq_reg ?_
  refine WL_box (cs := [(.int .i64 a2.1), u2]) hC0 rfl rfl rfl (fun b1 w1 hC1 hB1 => ?_)
  refine WL_assign rfl rfl ?_
  refine WL_nil ?_
  obtain ⟨r1, hr1, hF⟩ := bind_some hF
  refine W_cut (fun l w => ∃ x1 : Bool, x1 = r1 ∧ l = [(4, (.bool x1))] ∧ Below w1.heap.size w1 w ∧ Ctx [] w0 w []) ?_ ?_
  · refine W_drawn 21 rfl hmix (fun w3 hB3 => ?_)
    have hC3 := hC1.grow hB3
    refine WA_take 0 rfl (by kernel_rfl) (by kernel_rfl) (by kernel_rfl) rfl (fl_move rfl) ?_
    refine WL_move rfl rfl ?_
    refine WL_nil ?_
    refine WA_take 1 rfl (by kernel_rfl) (by kernel_rfl) (by kernel_rfl) rfl (fl_field Try.underlying165 rfl rfl (fun w => ⟨_, Try.sizeOf3 w⟩) rfl) ?_
    refine WL_field Try.underlying165 rfl rfl (fun w => ⟨_, Try.sizeOf3 w⟩) rfl rfl ?_
    refine WL_nil ?_
    refine WA_one 2 (by kernel_rfl) rfl ?_
    refine WL_load_box hC3 0 rfl rfl Try.isAgg3 rfl rfl ?_
    refine WL_nil ?_
    obtain ⟨x2, hr2, hr1⟩ := bind_some hr1
    refine WA_one 3 (by kernel_rfl) rfl ?_
    refine WL_call Try.call179 rfl rfl (c_M_hasRel a1 u1 (g1.now hC3.keep) a2.1 x2 hr2) ?_
    intro _ w4 hv1
    obtain ⟨rfl, hB4⟩ := res_bool hv1
    have hC4 := hC3.grow hB4
    refine WL_nil ?_
    refine WA_take 4 rfl (by kernel_rfl) (by kernel_rfl) (by kernel_rfl) rfl (fl_move rfl) ?_
    refine WL_move rfl rfl ?_
    refine WL_nil ?_
    refine WA_fork (fun hc1 => ?_) (fun hc1 => ?_)
    · replace hr1 := ite_t hr1 hc1
      refine WA_takeG 5 rfl (by kernel_rfl) (by kernel_rfl) (by kernel_rfl) rfl rfl rfl (fl_field Try.underlying165 rfl rfl (fun w => ⟨_, Try.sizeOf22 w⟩) rfl) ?_
      refine WL_guard rfl rfl ?_
      refine WL_field Try.underlying165 rfl rfl (fun w => ⟨_, Try.sizeOf22 w⟩) rfl rfl ?_
      refine WL_nil ?_
      refine WA_takeG 8 rfl (by kernel_rfl) (by kernel_rfl) (by kernel_rfl) rfl rfl rfl (fl_move rfl) ?_
      refine WL_guard rfl rfl ?_
      refine WL_move rfl rfl ?_
      refine WL_nil ?_
      refine WA_takeG 9 rfl (by kernel_rfl) (by kernel_rfl) (by kernel_rfl) rfl rfl rfl (fl_field Try.underlying165 rfl rfl (fun w => ⟨_, Try.sizeOf3 w⟩) rfl) ?_
      refine WL_guard rfl rfl ?_
      refine WL_field Try.underlying165 rfl rfl (fun w => ⟨_, Try.sizeOf3 w⟩) rfl rfl ?_
      refine WL_nil ?_
      obtain ⟨x3, hx1, hr1⟩ := bind_some hr1
      refine WA.sub (l' := [(0, u1), (1, (.agg #[(.int .i64 a2.1), u2])), (3, (ptr b1 0)), (4, (.bool false)), (5, u1), (6, (ptr b1 0)), (7, (.int .i64 a2.1)), (8, (.bool x2)), (9, (.bool true)), (10, (ptr b1 1)), (13, u1), (14, (ptr b1 0))]) ?_ ⟨rfl, rfl, rfl, rfl, rfl, rfl, rfl, rfl, rfl, rfl, rfl, rfl, trivial⟩
      refine WA_postsE [⟨6, [], fun vs => PW.val u2, []⟩, ⟨7, [], fun vs => PW.val (.int .i64 (List.length a2.2 : Int)), []⟩, ⟨10, [], fun vs => PW.val (.int .i64 a2.1), []⟩, ⟨11, [], fun vs => PW.at [] w0 x3, []⟩, ⟨12, [], fun vs => PW.val (.int .i64 x3), []⟩] [[], [6], [], [10], [11]] 8 rfl (by kernel_rfl) (by kernel_rfl) rfl ?_ ?_
      · refine StepsE_cons rfl ?_ ?_
        · intro w5 hB5
          refine DepsE_nil ?_
          refine ⟨_, rfl, ?_⟩
          refine WL_guard rfl rfl ?_
          refine WL_load_box (hC4.grow hB5) 0 rfl rfl Try.isAgg22 rfl rfl ?_
          refine WL_nil ?_
          exact FinE_val (Below.refl _ _) rfl rfl ⟨rfl, rfl⟩
        refine StepsE_cons rfl ?_ ?_
        · intro w5 hB5
          refine DepsE_cons rfl rfl rfl ?_
          rintro _ _ ⟨rfl, rfl⟩ _
          refine DepsE_nil ?_
          refine ⟨_, rfl, ?_⟩
          refine WL_guard rfl rfl ?_
          refine WL_len Try.underlying22 g2 rfl rfl ?_
          refine WL_nil ?_
          exact FinE_val (Below.refl _ _) rfl rfl ⟨rfl, rfl⟩
        refine StepsE_cons rfl ?_ ?_
        · intro w5 hB5
          refine DepsE_nil ?_
          refine ⟨_, rfl, ?_⟩
          refine WL_guard rfl rfl ?_
          refine WL_load_box (hC4.grow hB5) 0 rfl rfl Try.isAgg3 rfl rfl ?_
          refine WL_nil ?_
          exact FinE_val (Below.refl _ _) rfl rfl ⟨rfl, rfl⟩
        refine StepsE_cons rfl ?_ ?_
        · intro w5 hB5
          refine DepsE_cons rfl rfl rfl ?_
          rintro _ _ ⟨rfl, rfl⟩ _
          refine DepsE_nil ?_
          refine ⟨_, rfl, ?_⟩
          refine WL_guard rfl rfl ?_
          refine WL_index Try.underlying22 ty3 g1 hx1 rfl rfl rfl (fun b2 o1 h1 => ?_)
          refine WL_nil ?_
          exact FinE_val (Below.refl _ _) rfl rfl ⟨rfl, _, _, rfl, h1⟩
        refine StepsE_cons rfl ?_ ?_
        · intro w5 hB5
          refine DepsE_cons rfl rfl rfl ?_
          rintro _ _ ⟨rfl, b2, o1, rfl, h1⟩ _
          refine DepsE_nil ?_
          refine ⟨_, rfl, ?_⟩
          refine WL_guard rfl rfl ?_
          refine WL_load ty3 h1 (hC4.keep.then hB5) rfl rfl (fun v1 h2 => ?_)
          obtain rfl := ro_int h2
          refine WL_nil ?_
          exact FinE_val (Below.refl _ _) rfl rfl ⟨rfl, rfl⟩
        exact StepsE_nil
      · intro w6 hB6
        refine AllE_cons rfl rfl rfl ?_
        rintro _ _ ⟨rfl, rfl⟩
        refine AllE_cons rfl rfl rfl ?_
        rintro _ _ ⟨rfl, rfl⟩
        refine AllE_cons rfl rfl rfl ?_
        rintro _ _ ⟨rfl, rfl⟩
        refine AllE_cons rfl rfl rfl ?_
        rintro _ _ ⟨rfl, b2, o1, rfl, h1⟩
        refine AllE_cons rfl rfl rfl ?_
        rintro _ _ ⟨rfl, rfl⟩
        refine AllE_nil ?_
        intro hn1 hb1
        have hC5 := hC4.grow hB6
        refine WA_takeG 13 rfl (by kernel_rfl) (by kernel_rfl) (by kernel_rfl) rfl rfl rfl (fl_eql rfl rfl) ?_
        refine WL_guard rfl rfl ?_
        refine WL_eql rfl rfl rfl ?_
        refine WL_nil ?_
        refine WA_take 14 rfl (by kernel_rfl) (by kernel_rfl) (by kernel_rfl) rfl (fl_pick_t rfl rfl) ?_
        refine WL_pick_t rfl rfl rfl ?_
        refine WL_nil ?_
        refine WA_take 15 rfl (by kernel_rfl) (by kernel_rfl) (by kernel_rfl) rfl (fl_move rfl) ?_
        refine WL_move rfl rfl ?_
        refine WL_nil ?_
        refine WA_fork (fun hc2 => ?_) (fun hc2 => ?_)
        · replace hr1 := ite_t hr1 hc2
          refine WA_takeG 16 rfl (by kernel_rfl) (by kernel_rfl) (by kernel_rfl) rfl rfl rfl (fl_field Try.underlying165 rfl rfl (fun w => ⟨_, Try.sizeOf22 w⟩) rfl) ?_
          refine WL_guard rfl rfl ?_
          refine WL_field Try.underlying165 rfl rfl (fun w => ⟨_, Try.sizeOf22 w⟩) rfl rfl ?_
          refine WL_nil ?_
          refine WA_one 17 (by kernel_rfl) rfl ?_
          refine WL_guard rfl rfl ?_
          refine WL_load_box hC5 0 rfl rfl Try.isAgg22 rfl rfl ?_
          refine WL_nil ?_
          obtain ⟨x4, hr3, hr1⟩ := bind_some hr1
          refine WA_one 18 (by kernel_rfl) rfl ?_
          refine WL_guard rfl rfl ?_
          refine WL_call Try.call152 rfl rfl (c_M_areValues a2.2 u2 (g2.now hC5.keep) x4 hr3) ?_
          intro _ w7 hv2
          obtain ⟨rfl, hB7⟩ := res_bool hv2
          have hC6 := hC5.grow hB7
          refine WL_nil ?_
          refine WA_take 19 rfl (by kernel_rfl) (by kernel_rfl) (by kernel_rfl) rfl (fl_pick_t rfl rfl) ?_
          refine WL_pick_t rfl rfl rfl ?_
          refine WL_nil ?_
          refine WA_take 20 rfl (by kernel_rfl) (by kernel_rfl) (by kernel_rfl) rfl (fl_assign rfl) ?_
          refine WL_assign rfl rfl ?_
          refine WL_nil ?_
          refine WA_done (by kernel_rfl) ?_
          have hq1 := Option.some.inj hr1
          subst hq1
          have hC7 : Ctx [] w0 _ [] := hC6.headN 0
          refine nrm_sub (l' := [(4, (.bool x4))]) ⟨rfl, trivial⟩ ?_
          exact ⟨x4, rfl, rfl, ((((Keep.of hB3).then hB4).then hB6).then hB7).below, hC7⟩
        · replace hr1 := ite_f hr1 hc2
          refine WA_skip 16 rfl (by kernel_rfl) (by kernel_rfl) (by kernel_rfl) rfl rfl rfl (by simp) rfl rfl ?_
          refine WA_skip 17 rfl (by kernel_rfl) (by kernel_rfl) (by kernel_rfl) rfl rfl rfl (by simp) rfl rfl ?_
          refine WA_skip 18 rfl (by kernel_rfl) (by kernel_rfl) (by kernel_rfl) rfl rfl rfl (by simp) rfl rfl ?_
          refine WA_take 19 rfl (by kernel_rfl) (by kernel_rfl) (by kernel_rfl) rfl (fl_pick_f rfl rfl) ?_
          refine WL_pick_f rfl rfl rfl ?_
          refine WL_nil ?_
          refine WA_take 20 rfl (by kernel_rfl) (by kernel_rfl) (by kernel_rfl) rfl (fl_assign rfl) ?_
          refine WL_assign rfl rfl ?_
          refine WL_nil ?_
          refine WA_done (by kernel_rfl) ?_
          have hq2 := Option.some.inj hr1
          subst hq2
          have hC8 : Ctx [] w0 _ [] := hC5.headN 0
          refine nrm_sub (l' := [(4, (.bool false))]) ⟨rfl, trivial⟩ ?_
          exact ⟨false, rfl, rfl, (((Keep.of hB3).then hB4).then hB6).below, hC8⟩
    · replace hr1 := ite_f hr1 hc1
      refine WA_skip 5 rfl (by kernel_rfl) (by kernel_rfl) (by kernel_rfl) rfl rfl rfl (by simp) rfl rfl ?_
      refine WA_skip 6 rfl (by kernel_rfl) (by kernel_rfl) (by kernel_rfl) rfl rfl rfl (by simp) rfl rfl ?_
      refine WA_skip 7 rfl (by kernel_rfl) (by kernel_rfl) (by kernel_rfl) rfl rfl rfl (by simp) rfl rfl ?_
      refine WA_skip 8 rfl (by kernel_rfl) (by kernel_rfl) (by kernel_rfl) rfl rfl rfl (by simp) rfl rfl ?_
      refine WA_skip 9 rfl (by kernel_rfl) (by kernel_rfl) (by kernel_rfl) rfl rfl rfl (by simp) rfl rfl ?_
      refine WA_skip 10 rfl (by kernel_rfl) (by kernel_rfl) (by kernel_rfl) rfl rfl rfl (by simp) rfl rfl ?_
      refine WA_skip 11 rfl (by kernel_rfl) (by kernel_rfl) (by kernel_rfl) rfl rfl rfl (by simp) rfl rfl ?_
      refine WA_skip 12 rfl (by kernel_rfl) (by kernel_rfl) (by kernel_rfl) rfl rfl rfl (by simp) rfl rfl ?_
      refine WA_skip 13 rfl (by kernel_rfl) (by kernel_rfl) (by kernel_rfl) rfl rfl rfl (by simp) rfl rfl ?_
      refine WA_take 14 rfl (by kernel_rfl) (by kernel_rfl) (by kernel_rfl) rfl (fl_pick_f rfl rfl) ?_
      refine WL_pick_f rfl rfl rfl ?_
      refine WL_nil ?_
      refine WA_take 15 rfl (by kernel_rfl) (by kernel_rfl) (by kernel_rfl) rfl (fl_move rfl) ?_
      refine WL_move rfl rfl ?_
      refine WL_nil ?_
      refine WA_skip 16 rfl (by kernel_rfl) (by kernel_rfl) (by kernel_rfl) rfl rfl rfl (by simp) rfl rfl ?_
      refine WA_skip 17 rfl (by kernel_rfl) (by kernel_rfl) (by kernel_rfl) rfl rfl rfl (by simp) rfl rfl ?_
      refine WA_skip 18 rfl (by kernel_rfl) (by kernel_rfl) (by kernel_rfl) rfl rfl rfl (by simp) rfl rfl ?_
      refine WA_take 19 rfl (by kernel_rfl) (by kernel_rfl) (by kernel_rfl) rfl (fl_pick_f rfl rfl) ?_
      refine WL_pick_f rfl rfl rfl ?_
      refine WL_nil ?_
      refine WA_take 20 rfl (by kernel_rfl) (by kernel_rfl) (by kernel_rfl) rfl (fl_assign rfl) ?_
      refine WL_assign rfl rfl ?_
      refine WL_nil ?_
      refine WA_done (by kernel_rfl) ?_
      have hq3 := Option.some.inj hr1
      subst hq3
      have hC9 : Ctx [] w0 _ [] := hC4.headN 0
      refine nrm_sub (l' := [(4, (.bool false))]) ⟨rfl, trivial⟩ ?_
      exact ⟨false, rfl, rfl, ((Keep.of hB3).then hB4).below, hC9⟩
  · rintro _ w2 ⟨x1, rfl, rfl, hB2, hC2⟩
    try dsimp only at hF
    refine W_ret ?_
    have hq4 := Option.some.inj hF
    subst hq4
    refine fn_ret1 rfl rfl ?_
    exact ⟨_, rfl, bool_res hC2 _⟩

theorem c_Cmp_Or_int {w0 : World} (a1 : (List Int)) (u1 : Value) (g1 : RO [] w0 u1 a1) (rr : Int) (hF : Cmp.Or_int a1 = some rr) :
    Calls Try.prog 180 [u1].toArray w0 fun e w' => ∃ v, e = .returned v ∧ Res w0 rr v w' := by
  refine calls_of_W Try.func180 rfl rfl ?_
  have hC0 := Ctx.start w0
  unfold Cmp.Or_int at hF
  refine W_seq_reg ?_
  refine WL_assign rfl rfl ?_
  refine WL_nil ?_
  refine W_seq_reg ?_
  refine WL_assign rfl rfl ?_
  refine WL_nil ?_
  refine W_seq ?_
  refine W_seq_reg ?_
  refine WL_move rfl rfl ?_
  refine WL_len Try.underlying22 g1 rfl rfl ?_
  refine WL_move rfl rfl ?_
  refine WL_nil ?_
  obtain ⟨r1, hr1, hF⟩ := bind_some hF
  refine W_norm (fun l w => .inl () = r1 ∧ l = [(3, (.int .i64 0))] ∧ Below w0.heap.size w0 w ∧ Ctx [] w0 w []) ?_ ?_
  · refine W_block ?_
    refine W.sub (l' := [(3, (.int .i64 0)), (6, u1), (7, (.int .i64 (List.length a1 : Int))), (8, (.int .i64 0))]) ?_ ⟨rfl, rfl, rfl, rfl, trivial⟩
    refine W_loop (fun k l w => ∃ x1 : Int, l = [(3, (.int .i64 0)), (6, u1), (7, (.int .i64 (List.length a1 : Int))), (8, (.int .i64 x1))] ∧ Below w0.heap.size w0 w ∧ Ctx [] w0 w [] ∧ Cmp.Or_int_l1 a1 k x1 = some r1) FUEL ⟨0, rfl, (Below.refl _ _), hC0, hr1⟩ ?_
    clear hr1
    rintro k1 _ w1 ⟨x1, rfl, hB1, hC1, hL1⟩
    cases k1 with
    | zero => rw [Cmp.Or_int_l1] at hL1; cases hL1
    | succ k1 =>
      rw [Cmp.Or_int_l1] at hL1
      refine W_seq_reg ?_
      refine WL_lss rfl rfl rfl ?_
      refine WL_nil ?_
      refine W_seq ?_
      refine W_cond rfl (fun hc1 => ?_) (fun hc1 => ?_)
      · replace hL1 := ite_t hL1 hc1
        refine W_skip ?_
        refine nrm_normal ?_
        refine W_seq ?_
        refine W_block ?_
        refine W_seq_reg ?_
        obtain ⟨x2, hx1, hL1⟩ := bind_some hL1
        refine WL_index Try.underlying22 ty3 g1 hx1 rfl rfl rfl (fun b1 o1 h1 => ?_)
        refine WL_load ty3 h1 hC1.keep rfl rfl (fun v1 h2 => ?_)
        obtain rfl := ro_int h2
        refine WL_assign rfl rfl ?_
        refine WL_nil ?_
        refine W_seq_reg ?_
        refine WL_move rfl rfl ?_
        refine WL_move rfl rfl ?_
        refine WL_neq rfl rfl rfl ?_
        refine WL_nil ?_
        refine W_cond rfl (fun hc2 => ?_) (fun hc2 => ?_)
        · replace hL1 := ite_t hL1 hc2
          refine W_seq_reg ?_
          refine WL_move rfl rfl ?_
          refine WL_assign rfl rfl ?_
          refine WL_nil ?_
          refine W_ret ?_
          refine blk_ret ?_
          refine nrm_ret ?_
          refine nrm_ret ?_
          refine blk_ret ?_
          refine nrm_ret ?_
          refine nrm_ret ?_
          have hq1 := Option.some.inj hL1
          subst hq1
          dsimp only at hF
          have hq2 := Option.some.inj hF
          subst hq2
          refine fn_ret1 rfl rfl ?_
          exact ⟨_, rfl, int_res hC1 _⟩
        · replace hL1 := ite_f hL1 hc2
          refine W_skip ?_
          refine blk_normal ?_
          refine nrm_normal ?_
          refine W_reg ?_
          refine WL_add rfl rfl rfl ?_
          refine WL_move rfl rfl ?_
          refine WL_nil ?_
          refine nrm_sub (l' := [(3, (.int .i64 0)), (6, u1), (7, (.int .i64 (List.length a1 : Int))), (8, (.int .i64 (w64 (x1 + 1))))]) ⟨rfl, rfl, rfl, rfl, trivial⟩ ?_
          exact ⟨k1, Nat.lt_succ_self _, w64 (x1 + 1), rfl, (Keep.of hB1).below, hC1, hL1⟩
      · replace hL1 := ite_f hL1 hc1
        refine W_exit ?_
        refine nrm_exit ?_
        refine nrm_exit ?_
        refine blk_exit ?_
        have hq3 := Option.some.inj hL1
        subst hq3
        refine nrm_sub (l' := [(3, (.int .i64 0))]) ⟨rfl, trivial⟩ ?_
        exact ⟨rfl, rfl, (Keep.of hB1).below, hC1⟩
  · rintro l2 _ w2 hs2 ⟨rfl, rfl, hB2, hC2⟩
    try dsimp only at hF
    refine nrm_sub' hs2 ?_
    clear hs2
    refine W_seq_reg ?_
    refine WL_move rfl rfl ?_
    refine WL_assign rfl rfl ?_
    refine WL_nil ?_
    refine W_ret ?_
    have hq4 := Option.some.inj hF
    subst hq4
    refine fn_ret1 rfl rfl ?_
    exact ⟨_, rfl, int_res hC2 _⟩

theorem c_Cmp_isNaN_int {w0 : World} (a1 : Int) (rr : Bool) (hF : Cmp.isNaN_int a1 = some rr) :
    Calls Try.prog 194 [(.int .i64 a1)].toArray w0 fun e w' => ∃ v, e = .returned v ∧ Res w0 rr v w' := by
  refine calls_of_W Try.func194 rfl rfl ?_
  have hC0 := Ctx.start w0
  unfold Cmp.isNaN_int at hF
  refine W_seq_reg ?_
  refine WL_assign rfl rfl ?_
  refine WL_nil ?_
  refine W_seq_reg ?_
  refine WL_move rfl rfl ?_
  refine WL_move rfl rfl ?_
  refine WL_neq rfl rfl rfl ?_
  refine WL_assign rfl rfl ?_
  refine WL_nil ?_
  refine W_ret ?_
  have hq1 := Option.some.inj hF
  subst hq1
  refine fn_ret1 rfl rfl ?_
  exact ⟨_, rfl, bool_res hC0 _⟩

theorem c_Cmp_Compare_int {w0 : World} (a1 : Int) (a2 : Int) (rr : Int) (hF : Cmp.Compare_int a1 a2 = some rr) :
    Calls Try.prog 181 [(.int .i64 a1), (.int .i64 a2)].toArray w0 fun e w' => ∃ v, e = .returned v ∧ Res w0 rr v w' := by
  refine calls_of_W Try.func181 rfl rfl ?_
  have hC0 := Ctx.start w0
  unfold Cmp.Compare_int at hF
  refine W_seq_reg ?_
  refine WL_assign rfl rfl ?_
  refine WL_nil ?_
  refine W_seq_reg ?_
  refine WL_move rfl rfl ?_
  obtain ⟨x1, hr1, hF⟩ := bind_some hF
  refine WL_call Try.call194 rfl rfl (c_Cmp_isNaN_int a1 x1 hr1) ?_
  intro _ w1 hv1
  obtain ⟨rfl, hB1⟩ := res_bool hv1
  have hC1 := hC0.grow hB1
  refine WL_assign rfl rfl ?_
  refine WL_nil ?_
  refine W_seq_reg ?_
  refine WL_move rfl rfl ?_
  obtain ⟨x2, hr2, hF⟩ := bind_some hF
  refine WL_call Try.call194 rfl rfl (c_Cmp_isNaN_int a2 x2 hr2) ?_
  intro _ w2 hv2
  obtain ⟨rfl, hB2⟩ := res_bool hv2
  have hC2 := hC1.grow hB2
  refine WL_assign rfl rfl ?_
  refine WL_nil ?_
  refine W_seq ?_
  refine W_seq_reg ?_
  refine WL_move rfl rfl ?_
  refine WL_nil ?_
  refine W_cond rfl (fun hc1 => ?_) (fun hc1 => ?_)
  · replace hF := ite_t hF hc1
    refine W_seq ?_
    refine W_seq_reg ?_
    refine WL_move rfl rfl ?_
    refine WL_nil ?_
    refine W_cond rfl (fun hc2 => ?_) (fun hc2 => ?_)
    · replace hF := ite_t hF hc2
      refine W_seq_reg ?_
      refine WL_assign rfl rfl ?_
      refine WL_nil ?_
      refine W_ret ?_
      refine nrm_ret ?_
      refine nrm_ret ?_
      have hq1 := Option.some.inj hF
      subst hq1
      refine fn_ret1 rfl rfl ?_
      exact ⟨_, rfl, int_res hC2 _⟩
    · replace hF := ite_f hF hc2
      refine W_skip ?_
      refine nrm_normal ?_
      refine W_seq_reg ?_
      refine WL_assign rfl rfl ?_
      refine WL_nil ?_
      refine W_ret ?_
      refine nrm_ret ?_
      have hq2 := Option.some.inj hF
      subst hq2
      refine fn_ret1 rfl rfl ?_
      exact ⟨_, rfl, int_res hC2 _⟩
  · replace hF := ite_f hF hc1
    refine W_skip ?_
    refine nrm_normal ?_
    refine W_seq ?_
    refine W_seq_reg ?_
    refine WL_move rfl rfl ?_
    refine WL_nil ?_
    refine W_cond rfl (fun hc3 => ?_) (fun hc3 => ?_)
    · replace hF := ite_t hF hc3
      refine W_seq_reg ?_
      refine WL_assign rfl rfl ?_
      refine WL_nil ?_
      refine W_ret ?_
      refine nrm_ret ?_
      have hq3 := Option.some.inj hF
      subst hq3
      refine fn_ret1 rfl rfl ?_
      exact ⟨_, rfl, int_res hC2 _⟩
    · replace hF := ite_f hF hc3
      refine W_skip ?_
      refine nrm_normal ?_
      refine W_seq ?_
      refine W_seq_reg ?_
      refine WL_move rfl rfl ?_
      refine WL_move rfl rfl ?_
      refine WL_lss rfl rfl rfl ?_
      refine WL_nil ?_
      refine W_cond rfl (fun hc4 => ?_) (fun hc4 => ?_)
      · replace hF := ite_t hF hc4
        refine W_seq_reg ?_
        refine WL_assign rfl rfl ?_
        refine WL_nil ?_
        refine W_ret ?_
        refine nrm_ret ?_
        have hq4 := Option.some.inj hF
        subst hq4
        refine fn_ret1 rfl rfl ?_
        exact ⟨_, rfl, int_res hC2 _⟩
      · replace hF := ite_f hF hc4
        refine W_skip ?_
        refine nrm_normal ?_
        refine W_seq ?_
        refine W_seq_reg ?_
        refine WL_move rfl rfl ?_
        refine WL_move rfl rfl ?_
        refine WL_gtr rfl rfl rfl ?_
        refine WL_nil ?_
        refine W_cond rfl (fun hc5 => ?_) (fun hc5 => ?_)
        · replace hF := ite_t hF hc5
          refine W_seq_reg ?_
          refine WL_assign rfl rfl ?_
          refine WL_nil ?_
          refine W_ret ?_
          refine nrm_ret ?_
          have hq5 := Option.some.inj hF
          subst hq5
          refine fn_ret1 rfl rfl ?_
          exact ⟨_, rfl, int_res hC2 _⟩
        · replace hF := ite_f hF hc5
          refine W_skip ?_
          refine nrm_normal ?_
          refine W_seq_reg ?_
          refine WL_assign rfl rfl ?_
          refine WL_nil ?_
          refine W_ret ?_
          have hq6 := Option.some.inj hF
          subst hq6
          refine fn_ret1 rfl rfl ?_
          exact ⟨_, rfl, int_res hC2 _⟩

theorem c_Slices_Compare_Lint_int {w0 : World} (a1 : (List Int)) (u1 : Value) (g1 : RO [] w0 u1 a1) (a2 : (List Int)) (u2 : Value) (g2 : RO [] w0 u2 a2) (rr : Int) (hF : Slices.Compare_Lint_int a1 a2 = some rr) :
    Calls Try.prog 182 [u1, u2].toArray w0 fun e w' => ∃ v, e = .returned v ∧ Res w0 rr v w' := by
  refine calls_of_W Try.func182 rfl rfl ?_
  have hC0 := Ctx.start w0
  unfold Slices.Compare_Lint_int at hF
  refine W_seq_reg ?_
  refine WL_assign rfl rfl ?_
  refine WL_nil ?_
  refine W_seq ?_
  refine W_seq_reg ?_
  refine WL_move rfl rfl ?_
  refine WL_len Try.underlying22 g1 rfl rfl ?_
  refine WL_move rfl rfl ?_
  refine WL_nil ?_
  obtain ⟨r1, hr1, hF⟩ := bind_some hF
  refine W_norm (fun l w => .inl () = r1 ∧ l = [(0, u1), (1, u2)] ∧ Below w0.heap.size w0 w ∧ Ctx [] w0 w []) ?_ ?_
  · refine W_block ?_
    refine W.sub (l' := [(0, u1), (1, u2), (9, u1), (10, (.int .i64 (List.length a1 : Int))), (11, (.int .i64 0))]) ?_ ⟨rfl, rfl, rfl, rfl, rfl, trivial⟩
    refine W_loop (fun k l w => ∃ x1 : Int, l = [(0, u1), (1, u2), (9, u1), (10, (.int .i64 (List.length a1 : Int))), (11, (.int .i64 x1))] ∧ Below w0.heap.size w0 w ∧ Ctx [] w0 w [] ∧ Slices.Compare_Lint_int_l1 a1 a2 k x1 = some r1) FUEL ⟨0, rfl, (Below.refl _ _), hC0, hr1⟩ ?_
    clear hr1
    rintro k1 _ w1 ⟨x1, rfl, hB1, hC1, hL1⟩
    cases k1 with
    | zero => rw [Slices.Compare_Lint_int_l1] at hL1; cases hL1
    | succ k1 =>
      rw [Slices.Compare_Lint_int_l1] at hL1
      refine W_seq_reg ?_
      refine WL_lss rfl rfl rfl ?_
      refine WL_nil ?_
      refine W_seq ?_
      refine W_cond rfl (fun hc1 => ?_) (fun hc1 => ?_)
      · replace hL1 := ite_t hL1 hc1
        refine W_skip ?_
        refine nrm_normal ?_
        refine W_seq ?_
        refine W_block ?_
        refine W_seq_reg ?_
        refine WL_move rfl rfl ?_
        obtain ⟨x2, hx1, hL1⟩ := bind_some hL1
        refine WL_index Try.underlying22 ty3 g1 hx1 rfl rfl rfl (fun b1 o1 h1 => ?_)
        refine WL_load ty3 h1 hC1.keep rfl rfl (fun v1 h2 => ?_)
        obtain rfl := ro_int h2
        refine WL_assign rfl rfl ?_
        refine WL_assign rfl rfl ?_
        refine WL_nil ?_
        refine W_seq ?_
        refine W_seq_reg ?_
        refine WL_move rfl rfl ?_
        refine WL_move rfl rfl ?_
        refine WL_len Try.underlying22 g2 rfl rfl ?_
        refine WL_geq rfl rfl rfl ?_
        refine WL_nil ?_
        refine W_cond rfl (fun hc2 => ?_) (fun hc2 => ?_)
        · replace hL1 := ite_t hL1 hc2
          refine W_seq_reg ?_
          refine WL_assign rfl rfl ?_
          refine WL_nil ?_
          refine W_ret ?_
          refine nrm_ret ?_
          refine blk_ret ?_
          refine nrm_ret ?_
          refine nrm_ret ?_
          refine blk_ret ?_
          refine nrm_ret ?_
          refine nrm_ret ?_
          have hq1 := Option.some.inj hL1
          subst hq1
          dsimp only at hF
          have hq2 := Option.some.inj hF
          subst hq2
          refine fn_ret1 rfl rfl ?_
          exact ⟨_, rfl, int_res hC1 _⟩
        · replace hL1 := ite_f hL1 hc2
          refine W_skip ?_
          refine nrm_normal ?_
          refine W_seq_reg ?_
          refine WL_move rfl rfl ?_
          refine WL_move rfl rfl ?_
          obtain ⟨x3, hx2, hL1⟩ := bind_some hL1
          refine WL_index Try.underlying22 ty3 g2 hx2 rfl rfl rfl (fun b2 o2 h3 => ?_)
          refine WL_load ty3 h3 hC1.keep rfl rfl (fun v2 h4 => ?_)
          obtain rfl := ro_int h4
          refine WL_assign rfl rfl ?_
          refine WL_nil ?_
          refine W_seq_reg ?_
          refine WL_move rfl rfl ?_
          refine WL_move rfl rfl ?_
          obtain ⟨x4, hr2, hL1⟩ := bind_some hL1
          refine WL_call Try.call181 rfl rfl (c_Cmp_Compare_int x2 x3 x4 hr2) ?_
          intro _ w2 hv1
          obtain ⟨rfl, hB2⟩ := res_int hv1
          have hC2 := hC1.grow hB2
          refine WL_assign rfl rfl ?_
          refine WL_nil ?_
          refine W_seq_reg ?_
          refine WL_move rfl rfl ?_
          refine WL_neq rfl rfl rfl ?_
          refine WL_nil ?_
          refine W_cond rfl (fun hc3 => ?_) (fun hc3 => ?_)
          · replace hL1 := ite_t hL1 hc3
            refine W_seq_reg ?_
            refine WL_move rfl rfl ?_
            refine WL_assign rfl rfl ?_
            refine WL_nil ?_
            refine W_ret ?_
            refine blk_ret ?_
            refine nrm_ret ?_
            refine nrm_ret ?_
            refine blk_ret ?_
            refine nrm_ret ?_
            refine nrm_ret ?_
            have hq3 := Option.some.inj hL1
            subst hq3
            dsimp only at hF
            have hq4 := Option.some.inj hF
            subst hq4
            refine fn_ret1 rfl rfl ?_
            exact ⟨_, rfl, int_res hC2 _⟩
          · replace hL1 := ite_f hL1 hc3
            refine W_skip ?_
            refine blk_normal ?_
            refine nrm_normal ?_
            refine W_reg ?_
            refine WL_add rfl rfl rfl ?_
            refine WL_move rfl rfl ?_
            refine WL_nil ?_
            refine nrm_sub (l' := [(0, u1), (1, u2), (9, u1), (10, (.int .i64 (List.length a1 : Int))), (11, (.int .i64 (w64 (x1 + 1))))]) ⟨rfl, rfl, rfl, rfl, rfl, trivial⟩ ?_
            exact ⟨k1, Nat.lt_succ_self _, w64 (x1 + 1), rfl, ((Keep.of hB1).then hB2).below, hC2, hL1⟩
      · replace hL1 := ite_f hL1 hc1
        refine W_exit ?_
        refine nrm_exit ?_
        refine nrm_exit ?_
        refine blk_exit ?_
        have hq5 := Option.some.inj hL1
        subst hq5
        refine nrm_sub (l' := [(0, u1), (1, u2)]) ⟨rfl, rfl, trivial⟩ ?_
        exact ⟨rfl, rfl, (Keep.of hB1).below, hC1⟩
  · rintro l2 _ w3 hs2 ⟨rfl, rfl, hB3, hC3⟩
    try dsimp only at hF
    refine nrm_sub' hs2 ?_
    clear hs2
    refine W_seq ?_
    refine W_seq_reg ?_
    refine WL_move rfl rfl ?_
    refine WL_len Try.underlying22 g1 rfl rfl ?_
    refine WL_move rfl rfl ?_
    refine WL_len Try.underlying22 g2 rfl rfl ?_
    refine WL_lss rfl rfl rfl ?_
    refine WL_nil ?_
    refine W_cond rfl (fun hc4 => ?_) (fun hc4 => ?_)
    · replace hF := ite_t hF hc4
      refine W_seq_reg ?_
      refine WL_assign rfl rfl ?_
      refine WL_nil ?_
      refine W_ret ?_
      refine nrm_ret ?_
      have hq6 := Option.some.inj hF
      subst hq6
      refine fn_ret1 rfl rfl ?_
      exact ⟨_, rfl, int_res hC3 _⟩
    · replace hF := ite_f hF hc4
      refine W_skip ?_
      refine nrm_normal ?_
      refine W_seq_reg ?_
      refine WL_assign rfl rfl ?_
      refine WL_nil ?_
      refine W_ret ?_
      have hq7 := Option.some.inj hF
      subst hq7
      refine fn_ret1 rfl rfl ?_
      exact ⟨_, rfl, int_res hC3 _⟩

theorem c_M_CompareFacts {w0 : World} (a1 : (Int × (List Int))) (u1 : Value) (g1 : RO [] w0 u1 a1.2) (a2 : (Int × (List Int))) (u2 : Value) (g2 : RO [] w0 u2 a2.2) (rr : Int) (hF : M.CompareFacts a1 a2 = some rr) :
    Calls Try.prog 148 [(.agg #[(.int .i64 a1.1), u1]), (.agg #[(.int .i64 a2.1), u2])].toArray w0 fun e w' => ∃ v, e = .returned v ∧ Res w0 rr v w' := by
  refine calls_of_W Try.func148 rfl rfl ?_
  have hC0 := Ctx.start w0
  unfold M.CompareFacts at hF
  refine W_seq_reg ?_
  refine WL_box (cs := [(.int .i64 a1.1), u1]) hC0 rfl rfl rfl (fun b1 w1 hC1 hB1 => ?_)
  refine WL_box (cs := [(.int .i64 a2.1), u2]) hC1 rfl rfl rfl (fun b2 w2 hC2 hB2 => ?_)
  refine WL_assign rfl rfl ?_
  refine WL_nil ?_
  refine W_seq ?_
  refine W_drawn 13 rfl hmix (fun w3 hB3 => ?_)
  have hC3 := hC2.grow hB3
  refine WA_take 0 rfl (by kernel_rfl) (by kernel_rfl) (by kernel_rfl) rfl (fl_field Try.underlying165 rfl rfl (fun w => ⟨_, Try.sizeOf3 w⟩) rfl) ?_
  refine WL_field Try.underlying165 rfl rfl (fun w => ⟨_, Try.sizeOf3 w⟩) rfl rfl ?_
  refine WL_nil ?_
  refine WA_take 2 rfl (by kernel_rfl) (by kernel_rfl) (by kernel_rfl) rfl (fl_field Try.underlying165 rfl rfl (fun w => ⟨_, Try.sizeOf3 w⟩) rfl) ?_
  refine WL_field Try.underlying165 rfl rfl (fun w => ⟨_, Try.sizeOf3 w⟩) rfl rfl ?_
  refine WL_nil ?_
  refine WA_take 5 rfl (by kernel_rfl) (by kernel_rfl) (by kernel_rfl) rfl (fl_field Try.underlying165 rfl rfl (fun w => ⟨_, Try.sizeOf22 w⟩) rfl) ?_
  refine WL_field Try.underlying165 rfl rfl (fun w => ⟨_, Try.sizeOf22 w⟩) rfl rfl ?_
  refine WL_nil ?_
  refine WA_take 7 rfl (by kernel_rfl) (by kernel_rfl) (by kernel_rfl) rfl (fl_field Try.underlying165 rfl rfl (fun w => ⟨_, Try.sizeOf22 w⟩) rfl) ?_
  refine WL_field Try.underlying165 rfl rfl (fun w => ⟨_, Try.sizeOf22 w⟩) rfl rfl ?_
  refine WL_nil ?_
  obtain ⟨x1, hr1, hF⟩ := bind_some hF
  refine WA.sub (l' := [(0, (.agg #[(.int .i64 a1.1), u1])), (1, (.agg #[(.int .i64 a2.1), u2])), (2, (ptr b1 0)), (3, (ptr b2 0)), (4, (.int .i64 0)), (5, (ptr b1 0)), (7, (ptr b2 0)), (10, (ptr b1 1)), (12, (ptr b2 1))]) ?_ ⟨rfl, rfl, rfl, rfl, rfl, rfl, rfl, rfl, rfl, trivial⟩
  refine WA_postsE [⟨1, [], fun vs => PW.val (.int .i64 a1.1), []⟩, ⟨3, [], fun vs => PW.val (.int .i64 a2.1), []⟩, ⟨4, [], fun vs => PW.val (.int .i64 x1), []⟩, ⟨6, [], fun vs => PW.val u1, []⟩, ⟨8, [], fun vs => PW.val u2, []⟩] [[], [], [1, 3], [], []] 4 rfl (by kernel_rfl) (by kernel_rfl) rfl ?_ ?_
  · refine StepsE_cons rfl ?_ ?_
    · intro w5 hB5
      refine DepsE_nil ?_
      refine ⟨_, rfl, ?_⟩
      refine WL_load_box (hC3.grow hB5) 1 rfl rfl Try.isAgg3 rfl rfl ?_
      refine WL_nil ?_
      exact FinE_val (Below.refl _ _) rfl rfl ⟨rfl, rfl⟩
    refine StepsE_cons rfl ?_ ?_
    · intro w5 hB5
      refine DepsE_nil ?_
      refine ⟨_, rfl, ?_⟩
      refine WL_load_box (hC3.grow hB5) 0 rfl rfl Try.isAgg3 rfl rfl ?_
      refine WL_nil ?_
      exact FinE_val (Below.refl _ _) rfl rfl ⟨rfl, rfl⟩
    refine StepsE_cons rfl ?_ ?_
    · intro w5 hB5
      refine DepsE_cons rfl rfl rfl ?_
      rintro _ _ ⟨rfl, rfl⟩ _
      refine DepsE_cons rfl rfl rfl ?_
      rintro _ _ ⟨rfl, rfl⟩ _
      refine DepsE_nil ?_
      refine ⟨_, rfl, ?_⟩
      refine WL_call Try.call181 rfl rfl (c_Cmp_Compare_int a1.1 a2.1 x1 hr1) ?_
      intro _ w4 hv1
      obtain ⟨rfl, hB4⟩ := res_int hv1
      refine WL_nil ?_
      exact FinE_val hB4 rfl rfl ⟨rfl, rfl⟩
    refine StepsE_cons rfl ?_ ?_
    · intro w5 hB5
      refine DepsE_nil ?_
      refine ⟨_, rfl, ?_⟩
      refine WL_load_box (hC3.grow hB5) 1 rfl rfl Try.isAgg22 rfl rfl ?_
      refine WL_nil ?_
      exact FinE_val (Below.refl _ _) rfl rfl ⟨rfl, rfl⟩
    refine StepsE_cons rfl ?_ ?_
    · intro w5 hB5
      refine DepsE_nil ?_
      refine ⟨_, rfl, ?_⟩
      refine WL_load_box (hC3.grow hB5) 0 rfl rfl Try.isAgg22 rfl rfl ?_
      refine WL_nil ?_
      exact FinE_val (Below.refl _ _) rfl rfl ⟨rfl, rfl⟩
    exact StepsE_nil
  · intro w6 hB6
    refine AllE_cons rfl rfl rfl ?_
    rintro _ _ ⟨rfl, rfl⟩
    refine AllE_cons rfl rfl rfl ?_
    rintro _ _ ⟨rfl, rfl⟩
    refine AllE_cons rfl rfl rfl ?_
    rintro _ _ ⟨rfl, rfl⟩
    refine AllE_cons rfl rfl rfl ?_
    rintro _ _ ⟨rfl, rfl⟩
    refine AllE_cons rfl rfl rfl ?_
    rintro _ _ ⟨rfl, rfl⟩
    refine AllE_nil ?_
    intro hn1 hb1
    have hC4 := hC3.grow hB6
    obtain ⟨x2, hr2, hF⟩ := bind_some hF
    refine WA_one 9 (by kernel_rfl) rfl ?_
    refine WL_call Try.call182 rfl rfl (c_Slices_Compare_Lint_int a1.2 u1 (g1.now hC4.keep) a2.2 u2 (g2.now hC4.keep) x2 hr2) ?_
    intro _ w7 hv2
    obtain ⟨rfl, hB7⟩ := res_int hv2
    have hC5 := hC4.grow hB7
    refine WL_nil ?_
    refine WA_one 10 (by kernel_rfl) rfl ?_
    refine WL_buildSlice (vs := [(.int .i64 x1), (.int .i64 x2)]) hC5 Try.underlying22 ty3 rfl rfl rfl rfl (by intro v hv; simp only [List.mem_cons, List.not_mem_nil, or_false] at hv; rcases hv with rfl | rfl <;> rfl) rfl rfl (fun b3 w8 hC6 hB8 => ?_)
    have hC7 := hC6.row0 (α := Int)
    have hC8 := hC7.triv (int_val (x2))
    have hC9 := hC8.row1
    have hC10 := hC9.triv (int_val (x1))
    have hC11 := hC10.row1
    have hC12 := hC11.front 1 rfl
    dsimp only [List.eraseIdx, List.cons_append, List.nil_append, List.append_nil] at hC12
    have hC13 : Ctx [] w0 w8 (Item.own (.slice (some ⟨b3, 0, none⟩) 2 2) ([x1, x2] : List Int) :: [Item.box b2 [(.int .i64 a2.1), u2], Item.box b1 [(.int .i64 a1.1), u1]]) := hC12.rowOwn (by simp [maxLen])
    refine WL_nil ?_
    obtain ⟨x3, hr3, hF⟩ := bind_some hF
    refine WA_one 11 (by kernel_rfl) rfl ?_
    refine WL_call Try.call180 rfl rfl (c_Cmp_Or_int ([x1, x2]) (.slice (some ⟨b3, 0, none⟩) 2 2) ((hC13.ro 0 rfl).now (Keep.refl _ _)) x3 hr3) ?_
    intro _ w9 hv3
    obtain ⟨rfl, hB9⟩ := res_int hv3
    have hC14 := hC13.grow hB9
    refine WL_nil ?_
    refine WA_take 12 rfl (by kernel_rfl) (by kernel_rfl) (by kernel_rfl) rfl (fl_assign rfl) ?_
    refine WL_assign rfl rfl ?_
    refine WL_nil ?_
    refine WA_done (by kernel_rfl) ?_
    refine nrm_normal ?_
    refine W_ret ?_
    have hq1 := Option.some.inj hF
    subst hq1
    refine fn_ret1 rfl rfl ?_
    exact ⟨_, rfl, int_res hC14 _⟩

theorem c_M_AreFacts {w0 : World} (a1 : (List Int)) (u1 : Value) (g1 : RO [] w0 u1 a1) (a2 : (List (Int × (List Int)))) (u2 : Value) (g2 : RO [] w0 u2 a2) (rr : Bool) (hF : M.AreFacts a1 a2 = some rr) :
    Calls Try.prog 120 [u1, u2].toArray w0 fun e w' => ∃ v, e = .returned v ∧ Res w0 rr v w' := by
  refine calls_of_W Try.func120 rfl rfl ?_
  have hC0 := Ctx.start w0
  unfold M.AreFacts at hF
  refine W_seq_reg ?_
  refine WL_assign rfl rfl ?_
  refine WL_nil ?_
  refine W_seq ?_
  refine W_seq_reg ?_
  refine WL_move rfl rfl ?_
  refine WL_len Try.underlying100 g2 rfl rfl ?_
  refine WL_move rfl rfl ?_
  refine WL_nil ?_
  obtain ⟨r1, hr1, hF⟩ := bind_some hF
  refine W_norm (fun l w => .inl () = r1 ∧ l = [(0, u1), (1, u2)] ∧ Ctx [] w0 w []) ?_ ?_
  · refine W_block ?_
    refine W.sub (l' := [(0, u1), (1, u2), (7, u2), (8, (.int .i64 (List.length a2 : Int))), (9, (.int .i64 0))]) ?_ ⟨rfl, rfl, rfl, rfl, rfl, trivial⟩
    refine W_loop (fun k l w => ∃ x1 : Int, l = [(0, u1), (1, u2), (7, u2), (8, (.int .i64 (List.length a2 : Int))), (9, (.int .i64 x1))] ∧ Ctx [] w0 w [] ∧ M.AreFacts_l1 a2 a1 k x1 = some r1) FUEL ⟨0, rfl, hC0, hr1⟩ ?_
    clear hr1
    rintro k1 _ w1 ⟨x1, rfl, hC1, hL1⟩
    cases k1 with
    | zero => rw [M.AreFacts_l1] at hL1; cases hL1
    | succ k1 =>
      rw [M.AreFacts_l1] at hL1
      refine W_seq_reg ?_
      refine WL_lss rfl rfl rfl ?_
      refine WL_nil ?_
      refine W_seq ?_
      refine W_cond rfl (fun hc1 => ?_) (fun hc1 => ?_)
      · replace hL1 := ite_t hL1 hc1
        refine W_skip ?_
        refine nrm_normal ?_
        refine W_seq ?_
        refine W_block ?_
        refine W_seq_reg ?_
        refine WL_move rfl rfl ?_
        obtain ⟨x2, hx1, hL1⟩ := bind_some hL1
        refine WL_index Try.underlying100 ty165 g2 hx1 rfl rfl rfl (fun b1 o1 h1 => ?_)
        refine WL_load ty165 h1 hC1.keep rfl rfl (fun v1 h2 => ?_)
        obtain ⟨v2, rfl, h3⟩ := ro_st165 h2
        refine WL_alloc hC1 zero165 rfl rfl (fun b2 w2 hC2 hB2 => ?_)
        refine WL_assign rfl rfl ?_
        refine WL_store_box_agg (cs' := [(.int .i64 x2.1), v2]) (new := [(.int .i64 x2.1), v2]) hC2 0 rfl rfl (by intro v hv; simp only [List.mem_cons, List.not_mem_nil, or_false] at hv; rcases hv with rfl | rfl; exact rfl; exact (ro_one h3)) rfl Try.sizeOf165 rfl rfl (fun w3 hC3 => ?_)
        try dsimp only [List.set] at hC3
        refine WL_nil ?_
        obtain ⟨r2, hr2, hL1⟩ := bind_some hL1
        refine W_cut (fun l w => ∃ x3 : Bool, x3 = r2 ∧ l = [(0, u1), (1, u2), (7, u2), (8, (.int .i64 (List.length a2 : Int))), (9, (.int .i64 x1)), (31, (.bool x3))] ∧ Below w3.heap.size w3 w ∧ Ctx [] w0 w []) ?_ ?_
        · refine W_drawn 18 rfl hmix (fun w5 hB4 => ?_)
          have hC5 := hC3.grow hB4
          refine WA_take 0 rfl (by kernel_rfl) (by kernel_rfl) (by kernel_rfl) rfl (fl_move rfl) ?_
          refine WL_move rfl rfl ?_
          refine WL_nil ?_
          refine WA_one 1 (by kernel_rfl) rfl ?_
          refine WL_load_box_agg [(.int .i64 x2.1), v2] hC5 0 rfl rfl rfl Try.isAgg165 Try.sizeOf165 rfl rfl ?_
          refine WL_nil ?_
          obtain ⟨x4, hr3, hr2⟩ := bind_some hr2
          refine WA_one 2 (by kernel_rfl) rfl ?_
          refine WL_call Try.call147 rfl rfl (c_M_IsFact a1 u1 (g1.now hC5.keep) (x2.1, x2.2) v2 (h3.now hC5.keep) x4 hr3) ?_
          intro _ w6 hv1
          obtain ⟨rfl, hB5⟩ := res_bool hv1
          have hC6 := hC5.grow hB5
          refine WL_nil ?_
          refine WA_take 3 rfl (by kernel_rfl) (by kernel_rfl) (by kernel_rfl) rfl (fl_not rfl) ?_
          refine WL_not rfl rfl ?_
          refine WL_nil ?_
          refine WA_take 4 rfl (by kernel_rfl) (by kernel_rfl) (by kernel_rfl) rfl (fl_move rfl) ?_
          refine WL_move rfl rfl ?_
          refine WL_nil ?_
          refine WA_fork (fun hc2 => ?_) (fun hc2 => ?_)
          · replace hr2 := ite_t hr2 hc2
            refine WA_skip 5 rfl (by kernel_rfl) (by kernel_rfl) (by kernel_rfl) rfl rfl rfl (by simp) rfl rfl ?_
            refine WA_skip 6 rfl (by kernel_rfl) (by kernel_rfl) (by kernel_rfl) rfl rfl rfl (by simp) rfl rfl ?_
            refine WA_skip 7 rfl (by kernel_rfl) (by kernel_rfl) (by kernel_rfl) rfl rfl rfl (by simp) rfl rfl ?_
            refine WA_skip 8 rfl (by kernel_rfl) (by kernel_rfl) (by kernel_rfl) rfl rfl rfl (by simp [undef]) rfl rfl ?_
            refine WA_skip 9 rfl (by kernel_rfl) (by kernel_rfl) (by kernel_rfl) rfl rfl rfl (by simp [undef]) rfl rfl ?_
            refine WA_skip 10 rfl (by kernel_rfl) (by kernel_rfl) (by kernel_rfl) rfl rfl rfl (by simp [undef]) rfl rfl ?_
            refine WA_skip 11 rfl (by kernel_rfl) (by kernel_rfl) (by kernel_rfl) rfl rfl rfl (by simp [undef]) rfl rfl ?_
            refine WA_skip 12 rfl (by kernel_rfl) (by kernel_rfl) (by kernel_rfl) rfl rfl rfl (by simp [undef]) rfl rfl ?_
            refine WA_skip 13 rfl (by kernel_rfl) (by kernel_rfl) (by kernel_rfl) rfl rfl rfl (by simp [undef]) rfl rfl ?_
            refine WA_skip 14 rfl (by kernel_rfl) (by kernel_rfl) (by kernel_rfl) rfl rfl rfl (by simp [undef]) rfl rfl ?_
            refine WA_skip 15 rfl (by kernel_rfl) (by kernel_rfl) (by kernel_rfl) rfl rfl rfl (by simp [undef]) rfl rfl ?_
            refine WA_skip 16 rfl (by kernel_rfl) (by kernel_rfl) (by kernel_rfl) rfl rfl rfl (by simp) rfl rfl ?_
            refine WA_take 17 rfl (by kernel_rfl) (by kernel_rfl) (by kernel_rfl) rfl (fl_pick_t rfl rfl) ?_
            refine WL_pick_t rfl rfl rfl ?_
            refine WL_nil ?_
            refine WA_done (by kernel_rfl) ?_
            have hq1 := Option.some.inj hr2
            subst hq1
            have hC7 : Ctx [] w0 _ [] := hC6.headN 0
            refine nrm_sub (l' := [(0, u1), (1, u2), (7, u2), (8, (.int .i64 (List.length a2 : Int))), (9, (.int .i64 x1)), (31, (.bool true))]) ⟨rfl, rfl, rfl, rfl, rfl, rfl, trivial⟩ ?_
            exact ⟨true, rfl, rfl, ((Keep.of hB4).then hB5).below, hC7⟩
          · replace hr2 := ite_f hr2 hc2
            refine WA_takeG 5 rfl (by kernel_rfl) (by kernel_rfl) (by kernel_rfl) rfl rfl rfl (fl_move rfl) ?_
            refine WL_guard rfl rfl ?_
            refine WL_move rfl rfl ?_
            refine WL_nil ?_
            refine WA_takeG 6 rfl (by kernel_rfl) (by kernel_rfl) (by kernel_rfl) rfl rfl rfl (fl_gtr rfl rfl) ?_
            refine WL_guard rfl rfl ?_
            refine WL_gtr rfl rfl rfl ?_
            refine WL_nil ?_
            refine WA_takeG 7 rfl (by kernel_rfl) (by kernel_rfl) (by kernel_rfl) rfl rfl rfl (fl_move rfl) ?_
            refine WL_guard rfl rfl ?_
            refine WL_move rfl rfl ?_
            refine WL_nil ?_
            refine WA_fork (fun hc3 => ?_) (fun hc3 => ?_)
            · replace hr2 := ite_t hr2 hc3
              refine WA_takeG 8 rfl (by kernel_rfl) (by kernel_rfl) (by kernel_rfl) rfl rfl rfl (fl_move rfl) ?_
              refine WL_guard rfl rfl ?_
              refine WL_move rfl rfl ?_
              refine WL_nil ?_
              refine WA_takeG 9 rfl (by kernel_rfl) (by kernel_rfl) (by kernel_rfl) rfl rfl rfl (fl_move rfl) ?_
              refine WL_guard rfl rfl ?_
              refine WL_move rfl rfl ?_
              refine WL_nil ?_
              refine WA_takeG 10 rfl (by kernel_rfl) (by kernel_rfl) (by kernel_rfl) rfl rfl rfl (fl_sub rfl rfl) ?_
              refine WL_guard rfl rfl ?_
              refine WL_sub rfl rfl rfl ?_
              refine WL_nil ?_
              obtain ⟨x5, hx2, hr2⟩ := bind_some hr2
              refine WA_takeG 11 rfl (by kernel_rfl) (by kernel_rfl) (by kernel_rfl) rfl rfl rfl (fl_index Try.underlying100 ty165 g2 hx2 rfl rfl) ?_
              refine WL_guard rfl rfl ?_
              refine WL_index Try.underlying100 ty165 g2 hx2 rfl rfl rfl (fun b3 o2 h4 => ?_)
              refine WL_nil ?_
              refine WA.sub (l' := [(0, u1), (1, u2), (5, (.int .i64 x1)), (6, (ptr b2 0)), (7, u2), (8, (.int .i64 (List.length a2 : Int))), (9, (.int .i64 x1)), (10, (.bool (decide (x1 < (List.length a2 : Int))))), (11, (.int .i64 x1)), (12, (ptr b1 o1)), (13, (.agg #[(.int .i64 x2.1), v2])), (14, u1), (15, (.agg #[(.int .i64 x2.1), v2])), (16, (.bool x4)), (17, (.bool (!x4))), (18, (.bool false)), (19, (.int .i64 x1)), (20, (.bool (decide (0 < x1)))), (21, (.bool true)), (22, u2), (23, (.int .i64 x1)), (24, (.int .i64 (w64 (x1 - 1)))), (25, (ptr b3 o2))]) ?_ ⟨rfl, rfl, rfl, rfl, rfl, rfl, rfl, rfl, rfl, rfl, rfl, rfl, rfl, rfl, rfl, rfl, rfl, rfl, rfl, rfl, rfl, rfl, rfl, trivial⟩
              refine WA_postsE [⟨12, [], fun vs => PW.ro [] w0 x5, []⟩, ⟨13, [], fun vs => PW.val (.agg #[(.int .i64 x2.1), v2]), []⟩] [[], []] 4 rfl (by kernel_rfl) (by kernel_rfl) rfl ?_ ?_
              · refine StepsE_cons rfl ?_ ?_
                · intro w7 hB6
                  refine DepsE_nil ?_
                  refine ⟨_, rfl, ?_⟩
                  refine WL_guard rfl rfl ?_
                  refine WL_load ty165 h4 (hC6.keep.then hB6) rfl rfl (fun v5 h7 => ?_)
                  refine WL_nil ?_
                  exact FinE_val (Below.refl _ _) rfl rfl ⟨rfl, h7⟩
                refine StepsE_cons rfl ?_ ?_
                · intro w7 hB6
                  refine DepsE_nil ?_
                  refine ⟨_, rfl, ?_⟩
                  refine WL_guard rfl rfl ?_
                  refine WL_load_box_agg [(.int .i64 x2.1), v2] (hC6.grow hB6) 0 rfl rfl rfl Try.isAgg165 Try.sizeOf165 rfl rfl ?_
                  refine WL_nil ?_
                  exact FinE_val (Below.refl _ _) rfl rfl ⟨rfl, rfl⟩
                exact StepsE_nil
              · intro w8 hB7
                refine AllE_cons rfl rfl rfl ?_
                rintro v5 _ ⟨rfl, h7⟩
                obtain ⟨v4, rfl, h6⟩ := ro_st165 h7
                refine AllE_cons rfl rfl rfl ?_
                rintro _ _ ⟨rfl, rfl⟩
                refine AllE_nil ?_
                intro hn1 hb1
                have hC8 := hC6.grow hB7
                obtain ⟨x6, hr4, hr2⟩ := bind_some hr2
                refine WA_one 14 (by kernel_rfl) rfl ?_
                refine WL_guard rfl rfl ?_
                refine WL_call Try.call148 rfl rfl (c_M_CompareFacts x5 v4 (h6.now hC8.keep) (x2.1, x2.2) v2 (h3.now hC8.keep) x6 hr4) ?_
                intro _ w9 hv2
                obtain ⟨rfl, hB8⟩ := res_int hv2
                have hC9 := hC8.grow hB8
                refine WL_nil ?_
                refine WA_takeG 15 rfl (by kernel_rfl) (by kernel_rfl) (by kernel_rfl) rfl rfl rfl (fl_geq rfl rfl) ?_
                refine WL_guard rfl rfl ?_
                refine WL_geq rfl rfl rfl ?_
                refine WL_nil ?_
                refine WA_takeG 16 rfl (by kernel_rfl) (by kernel_rfl) (by kernel_rfl) rfl rfl rfl (fl_pick_t rfl rfl) ?_
                refine WL_guard rfl rfl ?_
                refine WL_pick_t rfl rfl rfl ?_
                refine WL_nil ?_
                refine WA_take 17 rfl (by kernel_rfl) (by kernel_rfl) (by kernel_rfl) rfl (fl_pick_f rfl rfl) ?_
                refine WL_pick_f rfl rfl rfl ?_
                refine WL_nil ?_
                refine WA_done (by kernel_rfl) ?_
                have hq2 := Option.some.inj hr2
                subst hq2
                have hC10 : Ctx [] w0 _ [] := hC9.headN 0
                refine nrm_sub (l' := [(0, u1), (1, u2), (7, u2), (8, (.int .i64 (List.length a2 : Int))), (9, (.int .i64 x1)), (31, (.bool (decide (0 ≤ x6))))]) ⟨rfl, rfl, rfl, rfl, rfl, rfl, trivial⟩ ?_
                exact ⟨(decide (0 ≤ x6)), rfl, rfl, ((((Keep.of hB4).then hB5).then hB7).then hB8).below, hC10⟩
            · replace hr2 := ite_f hr2 hc3
              refine WA_skip 8 rfl (by kernel_rfl) (by kernel_rfl) (by kernel_rfl) rfl rfl rfl (by simp) rfl rfl ?_
              refine WA_skip 9 rfl (by kernel_rfl) (by kernel_rfl) (by kernel_rfl) rfl rfl rfl (by simp) rfl rfl ?_
              refine WA_skip 10 rfl (by kernel_rfl) (by kernel_rfl) (by kernel_rfl) rfl rfl rfl (by simp) rfl rfl ?_
              refine WA_skip 11 rfl (by kernel_rfl) (by kernel_rfl) (by kernel_rfl) rfl rfl rfl (by simp) rfl rfl ?_
              refine WA_skip 12 rfl (by kernel_rfl) (by kernel_rfl) (by kernel_rfl) rfl rfl rfl (by simp) rfl rfl ?_
              refine WA_skip 13 rfl (by kernel_rfl) (by kernel_rfl) (by kernel_rfl) rfl rfl rfl (by simp) rfl rfl ?_
              refine WA_skip 14 rfl (by kernel_rfl) (by kernel_rfl) (by kernel_rfl) rfl rfl rfl (by simp) rfl rfl ?_
              refine WA_skip 15 rfl (by kernel_rfl) (by kernel_rfl) (by kernel_rfl) rfl rfl rfl (by simp) rfl rfl ?_
              refine WA_takeG 16 rfl (by kernel_rfl) (by kernel_rfl) (by kernel_rfl) rfl rfl rfl (fl_pick_f rfl rfl) ?_
              refine WL_guard rfl rfl ?_
              refine WL_pick_f rfl rfl rfl ?_
              refine WL_nil ?_
              refine WA_take 17 rfl (by kernel_rfl) (by kernel_rfl) (by kernel_rfl) rfl (fl_pick_f rfl rfl) ?_
              refine WL_pick_f rfl rfl rfl ?_
              refine WL_nil ?_
              refine WA_done (by kernel_rfl) ?_
              have hq3 := Option.some.inj hr2
              subst hq3
              have hC11 : Ctx [] w0 _ [] := hC6.headN 0
              refine nrm_sub (l' := [(0, u1), (1, u2), (7, u2), (8, (.int .i64 (List.length a2 : Int))), (9, (.int .i64 x1)), (31, (.bool false))]) ⟨rfl, rfl, rfl, rfl, rfl, rfl, trivial⟩ ?_
              exact ⟨false, rfl, rfl, ((Keep.of hB4).then hB5).below, hC11⟩
        · rintro _ w4 ⟨x3, rfl, rfl, hB3, hC4⟩
          try dsimp only at hL1
          refine W_cond rfl (fun hc4 => ?_) (fun hc4 => ?_)
          · replace hL1 := ite_t hL1 hc4
            refine W_seq_reg ?_
            refine WL_assign rfl rfl ?_
            refine WL_nil ?_
            refine W_ret ?_
            refine blk_ret ?_
            refine nrm_ret ?_
            refine nrm_ret ?_
            refine blk_ret ?_
            refine nrm_ret ?_
            refine nrm_ret ?_
            have hq4 := Option.some.inj hL1
            subst hq4
            dsimp only at hF
            have hq5 := Option.some.inj hF
            subst hq5
            refine fn_ret1 rfl rfl ?_
            exact ⟨_, rfl, bool_res hC4 _⟩
          · replace hL1 := ite_f hL1 hc4
            refine W_skip ?_
            refine blk_normal ?_
            refine nrm_normal ?_
            refine W_reg ?_
            refine WL_add rfl rfl rfl ?_
            refine WL_move rfl rfl ?_
            refine WL_nil ?_
            refine nrm_sub (l' := [(0, u1), (1, u2), (7, u2), (8, (.int .i64 (List.length a2 : Int))), (9, (.int .i64 (w64 (x1 + 1))))]) ⟨rfl, rfl, rfl, rfl, rfl, trivial⟩ ?_
            exact ⟨k1, Nat.lt_succ_self _, w64 (x1 + 1), rfl, hC4, hL1⟩
      · replace hL1 := ite_f hL1 hc1
        refine W_exit ?_
        refine nrm_exit ?_
        refine nrm_exit ?_
        refine blk_exit ?_
        have hq6 := Option.some.inj hL1
        subst hq6
        refine nrm_sub (l' := [(0, u1), (1, u2)]) ⟨rfl, rfl, trivial⟩ ?_
        exact ⟨rfl, rfl, hC1⟩
  · rintro l3 _ w10 hs3 ⟨rfl, rfl, hC12⟩
    try dsimp only at hF
    refine nrm_sub' hs3 ?_
    clear hs3
    obtain ⟨r3, hr5, hF⟩ := bind_some hF
    refine W_cut (fun l w => ∃ x7 : Bool, x7 = r3 ∧ l = [(4, (.bool x7))] ∧ Below w10.heap.size w10 w ∧ Ctx [] w0 w []) ?_ ?_
    · refine W_reg ?_
      refine WL_move rfl rfl ?_
      obtain ⟨x8, hr6, hr5⟩ := bind_some hr5
      refine WL_call Try.call149 rfl rfl (c_M_IsSchema a1 u1 (g1.now hC12.keep) x8 hr6) ?_
      intro _ w12 hv3
      obtain ⟨rfl, hB11⟩ := res_bool hv3
      have hC14 := hC12.grow hB11
      refine WL_move rfl rfl ?_
      refine WL_fork (fun hc5 => ?_) (fun hc5 => ?_)
      · replace hr5 := ite_t hr5 hc5
        refine WL_guard rfl rfl ?_
        refine WL_move rfl rfl ?_
        refine WL_guard rfl rfl ?_
        refine WL_len Try.underlying100 g2 rfl rfl ?_
        refine WL_guard rfl rfl ?_
        refine WL_leq rfl rfl rfl ?_
        refine WL_pick_t rfl rfl rfl ?_
        refine WL_assign rfl rfl ?_
        refine WL_nil ?_
        have hq7 := Option.some.inj hr5
        subst hq7
        refine nrm_sub (l' := [(4, (.bool (decide ((List.length a2 : Int) ≤ 24))))]) ⟨rfl, trivial⟩ ?_
        exact ⟨(decide ((List.length a2 : Int) ≤ 24)), rfl, rfl, (Keep.of hB11).below, hC14⟩
      · replace hr5 := ite_f hr5 hc5
        refine WL_guard_skip rfl rfl (by simp) rfl ?_
        refine WL_guard_skip rfl rfl (by simp) rfl ?_
        refine WL_guard_skip rfl rfl (by simp) rfl ?_
        refine WL_pick_f rfl rfl rfl ?_
        refine WL_assign rfl rfl ?_
        refine WL_nil ?_
        have hq8 := Option.some.inj hr5
        subst hq8
        refine nrm_sub (l' := [(4, (.bool false))]) ⟨rfl, trivial⟩ ?_
        exact ⟨false, rfl, rfl, (Keep.of hB11).below, hC14⟩
    · rintro _ w11 ⟨x7, rfl, rfl, hB10, hC13⟩
      try dsimp only at hF
      refine W_ret ?_
      have hq9 := Option.some.inj hF
      subst hq9
      refine fn_ret1 rfl rfl ?_
      exact ⟨_, rfl, bool_res hC13 _⟩

theorem c_M_IsSource {w0 : World} (a1 : (List Int)) (u1 : Value) (g1 : RO [] w0 u1 a1) (a2 : ((List (Int × (List Int))) × Int)) (u2 : Value) (g2 : RO [] w0 u2 a2.1) (rr : Bool) (hF : M.IsSource a1 a2 = some rr) :
    Calls Try.prog 67 [u1, (.agg #[u2, (.int .i64 a2.2)])].toArray w0 fun e w' => ∃ v, e = .returned v ∧ Res w0 rr v w' := by
  refine calls_of_W Try.func67 rfl rfl ?_
  have hC0 := Ctx.start w0
  unfold M.IsSource at hF
  refine W_seq_reg ?_
  refine WL_box (cs := [u2, (.int .i64 a2.2)]) hC0 rfl rfl rfl (fun b1 w1 hC1 hB1 => ?_)
  refine WL_assign rfl rfl ?_
  refine WL_nil ?_
  obtain ⟨r1, hr1, hF⟩ := bind_some hF
  refine W_cut (fun l w => ∃ x1 : Bool, x1 = r1 ∧ l = [(4, (.bool x1))] ∧ Below w1.heap.size w1 w ∧ Ctx [] w0 w []) ?_ ?_
  · refine W_reg ?_
    refine WL_move rfl rfl ?_
    refine WL_field Try.underlying102 rfl rfl (fun w => ⟨_, Try.sizeOf100 w⟩) rfl rfl ?_
    refine WL_load_box hC1 0 rfl rfl Try.isAgg100 rfl rfl ?_
    obtain ⟨x2, hr2, hr1⟩ := bind_some hr1
    refine WL_call Try.call120 rfl rfl (c_M_AreFacts a1 u1 (g1.now hC1.keep) a2.1 u2 (g2.now hC1.keep) x2 hr2) ?_
    intro _ w3 hv1
    obtain ⟨rfl, hB3⟩ := res_bool hv1
    have hC3 := hC1.grow hB3
    refine WL_move rfl rfl ?_
    refine WL_fork (fun hc1 => ?_) (fun hc1 => ?_)
    · replace hr1 := ite_t hr1 hc1
      refine WL_guard rfl rfl ?_
      refine WL_field Try.underlying102 rfl rfl (fun w => ⟨_, Try.sizeOf3 w⟩) rfl rfl ?_
      refine WL_guard rfl rfl ?_
      refine WL_load_box hC3 0 rfl rfl Try.isAgg3 rfl rfl ?_
      obtain ⟨x3, hr3, hr1⟩ := bind_some hr1
      refine WL_guard rfl rfl ?_
      refine WL_call Try.call97 rfl rfl (c_M_within a2.2 0 1000 x3 hr3) ?_
      intro _ w4 hv2
      obtain ⟨rfl, hB4⟩ := res_bool hv2
      have hC4 := hC3.grow hB4
      refine WL_pick_t rfl rfl rfl ?_
      refine WL_assign rfl rfl ?_
      refine WL_nil ?_
      have hq1 := Option.some.inj hr1
      subst hq1
      have hC5 : Ctx [] w0 _ [] := hC4.headN 0
      refine nrm_sub (l' := [(4, (.bool x3))]) ⟨rfl, trivial⟩ ?_
      exact ⟨x3, rfl, rfl, ((Keep.of hB3).then hB4).below, hC5⟩
    · replace hr1 := ite_f hr1 hc1
      refine WL_guard_skip rfl rfl (by simp) rfl ?_
      refine WL_guard_skip rfl rfl (by simp) rfl ?_
      refine WL_guard_skip rfl rfl (by simp) rfl ?_
      refine WL_pick_f rfl rfl rfl ?_
      refine WL_assign rfl rfl ?_
      refine WL_nil ?_
      have hq2 := Option.some.inj hr1
      subst hq2
      have hC6 : Ctx [] w0 _ [] := hC3.headN 0
      refine nrm_sub (l' := [(4, (.bool false))]) ⟨rfl, trivial⟩ ?_
      exact ⟨false, rfl, rfl, (Keep.of hB3).below, hC6⟩
  · rintro _ w2 ⟨x1, rfl, rfl, hB2, hC2⟩
    try dsimp only at hF
    refine W_ret ?_
    have hq3 := Option.some.inj hF
    subst hq3
    refine fn_ret1 rfl rfl ?_
    exact ⟨_, rfl, bool_res hC2 _⟩

theorem c_Q_eqSource {w0 : World} (a1 : ((List (Int × (List Int))) × Int)) (u1 : Value) (g1 : RO [] w0 u1 a1.1) (a2 : ((List (Int × (List Int))) × Int)) (u2 : Value) (g2 : RO [] w0 u2 a2.1) (rr : Bool) (hF : Q.eqSource a1 a2 = some rr) :
    Calls Try.prog 68 [(.agg #[u1, (.int .i64 a1.2)]), (.agg #[u2, (.int .i64 a2.2)])].toArray w0 fun e w' => ∃ v, e = .returned v ∧ Res w0 rr v w' := by
  refine calls_of_W Try.func68 rfl rfl ?_
  have hC0 := Ctx.start w0
  unfold Q.eqSource at hF
  refine W_seq_reg ?_
  refine WL_box (cs := [u1, (.int .i64 a1.2)]) hC0 rfl rfl rfl (fun b1 w1 hC1 hB1 => ?_)
  refine WL_box (cs := [u2, (.int .i64 a2.2)]) hC1 rfl rfl rfl (fun b2 w2 hC2 hB2 => ?_)
  refine WL_assign rfl rfl ?_
  refine WL_nil ?_
  refine W_seq ?_
  refine W_seq_reg ?_
  refine WL_field Try.underlying102 rfl rfl (fun w => ⟨_, Try.sizeOf100 w⟩) rfl rfl ?_
  refine WL_load_box hC2 1 rfl rfl Try.isAgg100 rfl rfl ?_
  refine WL_field Try.underlying102 rfl rfl (fun w => ⟨_, Try.sizeOf100 w⟩) rfl rfl ?_
  refine WL_load_box hC2 0 rfl rfl Try.isAgg100 rfl rfl ?_
  obtain ⟨x1, hr1, hF⟩ := bind_some hF
  refine WL_call Try.call85 rfl rfl (c_Q_eqFactS a1.1 u1 (g1.now hC2.keep) a2.1 u2 (g2.now hC2.keep) x1 hr1) ?_
  intro _ w3 hv1
  obtain ⟨rfl, hB3⟩ := res_bool hv1
  have hC3 := hC2.grow hB3
  refine WL_not rfl rfl ?_
  refine WL_nil ?_
  refine W_cond rfl (fun hc1 => ?_) (fun hc1 => ?_)
  · replace hF := ite_t hF hc1
    refine W_seq_reg ?_
    refine WL_assign rfl rfl ?_
    refine WL_nil ?_
    refine W_ret ?_
    refine nrm_ret ?_
    have hq1 := Option.some.inj hF
    subst hq1
    refine fn_ret1 rfl rfl ?_
    exact ⟨_, rfl, bool_res hC3 _⟩
  · replace hF := ite_f hF hc1
    refine W_skip ?_
    refine nrm_normal ?_
    refine W_seq ?_
    refine W_seq_reg ?_
    refine WL_field Try.underlying102 rfl rfl (fun w => ⟨_, Try.sizeOf3 w⟩) rfl rfl ?_
    refine WL_load_box hC3 1 rfl rfl Try.isAgg3 rfl rfl ?_
    refine WL_field Try.underlying102 rfl rfl (fun w => ⟨_, Try.sizeOf3 w⟩) rfl rfl ?_
    refine WL_load_box hC3 0 rfl rfl Try.isAgg3 rfl rfl ?_
    refine WL_neq rfl rfl rfl ?_
    refine WL_nil ?_
    refine W_cond rfl (fun hc2 => ?_) (fun hc2 => ?_)
    · replace hF := ite_t hF hc2
      refine W_seq_reg ?_
      refine WL_assign rfl rfl ?_
      refine WL_nil ?_
      refine W_ret ?_
      refine nrm_ret ?_
      have hq2 := Option.some.inj hF
      subst hq2
      refine fn_ret1 rfl rfl ?_
      exact ⟨_, rfl, bool_res hC3 _⟩
    · replace hF := ite_f hF hc2
      refine W_skip ?_
      refine nrm_normal ?_
      refine W_seq_reg ?_
      refine WL_assign rfl rfl ?_
      refine WL_nil ?_
      refine W_ret ?_
      have hq3 := Option.some.inj hF
      subst hq3
      refine fn_ret1 rfl rfl ?_
      exact ⟨_, rfl, bool_res hC3 _⟩

theorem c_Q_FnExactIsSource {w0 : World} (a1 : (List Int)) (u1 : Value) (g1 : RO [] w0 u1 a1) (a2 : ((List (Int × (List Int))) × Int)) (u2 : Value) (g2 : RO [] w0 u2 a2.1) (rr : Bool) (hF : Q.FnExactIsSource a1 a2 = some rr) :
    Calls Try.prog 11 [u1, (.agg #[u2, (.int .i64 a2.2)])].toArray w0 fun e w' => ∃ v, e = .returned v ∧ Res w0 rr v w' := by
  refine calls_of_W Try.func11 rfl rfl ?_
  have hC0 := Ctx.start w0
  unfold Q.FnExactIsSource at hF
  refine W_seq_reg ?_
  refine WL_box (cs := [u2, (.int .i64 a2.2)]) hC0 rfl rfl rfl (fun b1 w1 hC1 hB1 => ?_)
  refine WL_assign rfl rfl ?_
  refine WL_nil ?_
  refine W_seq ?_
  refine W_seq_reg ?_
  refine WL_move rfl rfl ?_
  refine WL_len Try.underlying22 g1 rfl rfl ?_
  refine WL_gtr rfl rfl rfl ?_
  refine WL_nil ?_
  refine W_cond rfl (fun hc1 => ?_) (fun hc1 => ?_)
  · replace hF := ite_t hF hc1
    refine W_seq_reg ?_
    refine WL_assign rfl rfl ?_
    refine WL_nil ?_
    refine W_ret ?_
    refine nrm_ret ?_
    have hq1 := Option.some.inj hF
    subst hq1
    refine fn_ret1 rfl rfl ?_
    exact ⟨_, rfl, bool_res hC1 _⟩
  · replace hF := ite_f hF hc1
    refine W_skip ?_
    refine nrm_normal ?_
    refine W_seq_reg ?_
    refine WL_assign rfl rfl ?_
    refine WL_nil ?_
    refine W_seq_reg ?_
    refine WL_load_box_agg [u2, (.int .i64 a2.2)] hC1 0 rfl rfl rfl Try.isAgg97 Try.sizeOf97 rfl rfl ?_
    refine WL_move rfl rfl ?_
    obtain ⟨x1, hr1, hF⟩ := bind_some hF
    refine WL_call Try.call64 rfl rfl (c_Q_szSource (a2.1, a2.2) u2 (g2.now hC1.keep) 1048576 x1 hr1) ?_
    intro _ w2 hv1
    obtain ⟨rfl, hB2⟩ := res_int hv1
    have hC2 := hC1.grow hB2
    refine WL_assign rfl rfl ?_
    refine WL_nil ?_
    refine W_seq ?_
    refine W_seq_reg ?_
    refine WL_move rfl rfl ?_
    refine WL_lss rfl rfl rfl ?_
    refine WL_nil ?_
    refine W_cond rfl (fun hc2 => ?_) (fun hc2 => ?_)
    · replace hF := ite_t hF hc2
      refine W_seq_reg ?_
      refine WL_assign rfl rfl ?_
      refine WL_nil ?_
      refine W_ret ?_
      refine nrm_ret ?_
      have hq2 := Option.some.inj hF
      subst hq2
      refine fn_ret1 rfl rfl ?_
      exact ⟨_, rfl, bool_res hC2 _⟩
    · replace hF := ite_f hF hc2
      refine W_skip ?_
      refine nrm_normal ?_
      refine W_seq ?_
      refine W_drawn 6 rfl hmix (fun w3 hB3 => ?_)
      have hC3 := hC2.grow hB3
      refine WA_take 0 rfl (by kernel_rfl) (by kernel_rfl) (by kernel_rfl) rfl (fl_move rfl) ?_
      refine WL_move rfl rfl ?_
      refine WL_nil ?_
      obtain ⟨x2, hr2, hF⟩ := bind_some hF
      refine WA.sub (l' := [(0, u1), (1, (.agg #[u2, (.int .i64 a2.2)])), (3, (ptr b1 0)), (4, (.bool false)), (5, (.int .i64 x1)), (10, u1), (11, (.int .i64 (List.length a1 : Int))), (12, (.bool (decide (1048576 < (List.length a1 : Int))))), (13, (.agg #[u2, (.int .i64 a2.2)])), (14, (.int .i64 1048576)), (15, (.int .i64 x1)), (16, (.int .i64 x1)), (17, (.bool (decide (x1 < 0)))), (18, u1)]) ?_ ⟨rfl, rfl, rfl, rfl, rfl, rfl, rfl, rfl, rfl, rfl, rfl, rfl, rfl, rfl, trivial⟩
      refine WA_postsE [⟨1, [], fun vs => PW.own x2, []⟩, ⟨2, [], fun vs => PW.val (.agg #[u2, (.int .i64 a2.2)]), []⟩] [[], []] 3 rfl (by kernel_rfl) (by kernel_rfl) rfl ?_ ?_
      · refine StepsE_cons rfl ?_ ?_
        · intro w5 hB5
          refine DepsE_nil ?_
          refine ⟨_, rfl, ?_⟩
          refine WL_call Try.call37 rfl rfl (c_Q_toIntS a1 u1 (g1.now (hC3.keep.then hB5)) x2 hr2) ?_
          rintro v1 w4 ⟨hB4, F1, hv2, hn1, hb1⟩
          refine WL_nil ?_
          exact FinE_own hB4 rfl rfl hv2 hn1 hb1 (Val.inh hv2)
        refine StepsE_cons rfl ?_ ?_
        · intro w5 hB5
          refine DepsE_nil ?_
          refine ⟨_, rfl, ?_⟩
          refine WL_load_box_agg [u2, (.int .i64 a2.2)] (hC3.grow hB5) 0 rfl rfl rfl Try.isAgg97 Try.sizeOf97 rfl rfl ?_
          refine WL_nil ?_
          exact FinE_val (Below.refl _ _) rfl rfl ⟨rfl, rfl⟩
        exact StepsE_nil
      · intro w6 hB6
        refine AllE_cons rfl rfl rfl ?_
        intro v1 F1 hv2
        refine AllE_cons rfl rfl rfl ?_
        rintro _ _ ⟨rfl, rfl⟩
        refine AllE_nil ?_
        intro hn2 hb2
        have hC4 := hC3.pushL hB6 (Bs := [Item.own v1 (x2 : (List Int))]) (Fs := [F1]) ⟨F1, _, rfl, hv2, rfl⟩ (by simpa using hn2) (fun b h => (hb2 b (by simpa using h)).1)
        obtain ⟨x3, hr3, hF⟩ := bind_some hF
        refine WA_one 3 (by kernel_rfl) rfl ?_
        refine WL_call Try.call66 rfl rfl (c_Q_toSource (a2.1, a2.2) u2 (g2.now hC4.keep) x3 hr3) ?_
        rintro v2 w7 ⟨hB7, F2, hv3, hn3, hb3⟩
        have hC5 := hC4.push hB7 (A := Item.own v2 x3) hv3 hn3 hb3
        obtain ⟨v3, rfl, hC6⟩ := st102_own hC5
        refine WL_nil ?_
        obtain ⟨x4, hr4, hF⟩ := bind_some hF
        refine WA_one 4 (by kernel_rfl) rfl ?_
        refine WL_call Try.call65 rfl rfl (c_S_IsSource x2 v1 ((hC6.ro 1 rfl).now (Keep.refl _ _)) x3 v3 ((hC6.ro 0 rfl).now (Keep.refl _ _)) x4 hr4) ?_
        intro _ w8 hv4
        obtain ⟨rfl, hB8⟩ := res_bool hv4
        have hC7 := hC6.grow hB8
        refine WL_nil ?_
        refine WA_take 5 rfl (by kernel_rfl) (by kernel_rfl) (by kernel_rfl) rfl (fl_assign rfl) ?_
        refine WL_assign rfl rfl ?_
        refine WL_nil ?_
        refine WA_done (by kernel_rfl) ?_
        refine nrm_normal ?_
        refine W_seq_reg ?_
        refine WL_move rfl rfl ?_
        obtain ⟨x5, hr5, hF⟩ := bind_some hF
        refine WL_call Try.call37 rfl rfl (c_Q_toIntS a1 u1 (g1.now hC7.keep) x5 hr5) ?_
        rintro v4 w9 ⟨hB9, F3, hv5, hn4, hb4⟩
        have hC8 := hC7.push hB9 (A := Item.own v4 x5) hv5 hn4 hb4
        refine WL_assign rfl rfl ?_
        refine WL_nil ?_
        refine W_seq_reg ?_
        refine WL_load_box_agg [u2, (.int .i64 a2.2)] hC8 3 rfl rfl rfl Try.isAgg97 Try.sizeOf97 rfl rfl ?_
        obtain ⟨x6, hr6, hF⟩ := bind_some hF
        refine WL_call Try.call66 rfl rfl (c_Q_toSource (a2.1, a2.2) u2 (g2.now hC8.keep) x6 hr6) ?_
        rintro v5 w10 ⟨hB10, F4, hv6, hn5, hb5⟩
        have hC9 := hC8.push hB10 (A := Item.own v5 x6) hv6 hn5 hb5
        obtain ⟨v6, rfl, hC10⟩ := st102_own hC9
        refine WL_alloc hC10 zero102 rfl rfl (fun b2 w11 hC11 hB11 => ?_)
        refine WL_store_box_agg (cs' := [v6, (.int .i64 x6.2)]) (new := [v6, (.int .i64 x6.2)]) hC11 0 rfl rfl (by intro v hv; simp only [List.mem_cons, List.not_mem_nil, or_false] at hv; rcases hv with rfl | rfl; exact (ro_one (hC11.ro 1 rfl)); exact rfl) rfl Try.sizeOf102 rfl rfl (fun w12 hC12 => ?_)
        try dsimp only [List.set] at hC12
        refine WL_nil ?_
        refine W_seq_reg ?_
        refine WL_move rfl rfl ?_
        refine WL_load_box_agg [v6, (.int .i64 x6.2)] hC12 0 rfl rfl rfl Try.isAgg102 Try.sizeOf102 rfl rfl ?_
        obtain ⟨x7, hr7, hF⟩ := bind_some hF
        refine WL_call Try.call67 rfl rfl (c_M_IsSource x5 v4 ((hC12.ro 2 rfl).now (Keep.refl _ _)) (x6.1, x6.2) v6 ((hC12.ro 1 rfl).now (Keep.refl _ _)) x7 hr7) ?_
        intro _ w13 hv7
        obtain ⟨rfl, hB12⟩ := res_bool hv7
        have hC13 := hC12.grow hB12
        refine WL_assign rfl rfl ?_
        refine WL_nil ?_
        refine W_seq ?_
        refine W_seq_reg ?_
        refine WL_move rfl rfl ?_
        refine WL_move rfl rfl ?_
        refine WL_bool_neq Try.underlying4 rfl rfl rfl ?_
        refine WL_nil ?_
        refine W_cond rfl (fun hc3 => ?_) (fun hc3 => ?_)
        · replace hF := ite_t hF hc3
          refine W_seq_reg ?_
          refine WL_assign rfl rfl ?_
          refine WL_nil ?_
          refine W_ret ?_
          refine nrm_ret ?_
          have hq3 := Option.some.inj hF
          subst hq3
          refine fn_ret1 rfl rfl ?_
          exact ⟨_, rfl, bool_res hC13 _⟩
        · replace hF := ite_f hF hc3
          refine W_skip ?_
          refine nrm_normal ?_
          refine W_seq ?_
          refine W_seq_reg ?_
          refine WL_move rfl rfl ?_
          refine WL_move rfl rfl ?_
          obtain ⟨x8, hr8, hF⟩ := bind_some hF
          refine WL_call Try.call37 rfl rfl (c_Q_toIntS a1 u1 (g1.now hC13.keep) x8 hr8) ?_
          rintro v7 w14 ⟨hB13, F5, hv8, hn6, hb6⟩
          have hC14 := hC13.push hB13 (A := Item.own v7 x8) hv8 hn6 hb6
          obtain ⟨x9, hr9, hF⟩ := bind_some hF
          refine WL_call Try.call39 rfl rfl (c_Q_eqIntS x5 v4 ((hC14.ro 3 rfl).now (Keep.refl _ _)) x8 v7 ((hC14.ro 0 rfl).now (Keep.refl _ _)) x9 hr9) ?_
          intro _ w15 hv9
          obtain ⟨rfl, hB14⟩ := res_bool hv9
          have hC15 := hC14.grow hB14
          refine WL_not rfl rfl ?_
          refine WL_nil ?_
          refine W_cond rfl (fun hc4 => ?_) (fun hc4 => ?_)
          · replace hF := ite_t hF hc4
            refine W_seq_reg ?_
            refine WL_assign rfl rfl ?_
            refine WL_nil ?_
            refine W_ret ?_
            refine nrm_ret ?_
            have hq4 := Option.some.inj hF
            subst hq4
            refine fn_ret1 rfl rfl ?_
            exact ⟨_, rfl, bool_res hC15 _⟩
          · replace hF := ite_f hF hc4
            refine W_skip ?_
            refine nrm_normal ?_
            refine W_seq ?_
            refine W_seq ?_
            refine W_drawn 5 rfl hmix (fun w16 hB15 => ?_)
            have hC16 := hC15.grow hB15
            obtain ⟨x10, hr10, hF⟩ := bind_some hF
            refine WA.sub (l' := [(0, u1), (1, (.agg #[u2, (.int .i64 a2.2)])), (3, (ptr b1 0)), (4, (.bool false)), (5, (.int .i64 x1)), (6, (.bool x4)), (7, v4), (8, (ptr b2 0)), (9, (.bool x7)), (10, u1), (11, (.int .i64 (List.length a1 : Int))), (12, (.bool (decide (1048576 < (List.length a1 : Int))))), (13, (.agg #[u2, (.int .i64 a2.2)])), (14, (.int .i64 1048576)), (15, (.int .i64 x1)), (16, (.int .i64 x1)), (17, (.bool (decide (x1 < 0)))), (18, u1), (19, v1), (20, (.agg #[u2, (.int .i64 a2.2)])), (21, (.agg #[v3, (.int .i64 x3.2)])), (22, (.bool x4)), (23, u1), (24, v4), (25, (.agg #[u2, (.int .i64 a2.2)])), (26, (.agg #[v6, (.int .i64 x6.2)])), (27, v4), (28, (.agg #[v6, (.int .i64 x6.2)])), (29, (.bool x7)), (30, (.bool x7)), (31, (.bool x4)), (32, (.bool (!decide (x7 = x4)))), (33, v4), (34, u1), (35, v7), (36, (.bool x9)), (37, (.bool (!x9)))]) ?_ ⟨rfl, rfl, rfl, rfl, rfl, rfl, rfl, rfl, rfl, rfl, rfl, rfl, rfl, rfl, rfl, rfl, rfl, rfl, rfl, rfl, rfl, rfl, rfl, rfl, rfl, rfl, rfl, rfl, rfl, rfl, rfl, rfl, rfl, rfl, rfl, rfl, rfl, trivial⟩
            refine WA_postsE [⟨0, [], fun vs => PW.val (.agg #[v6, (.int .i64 x6.2)]), []⟩, ⟨1, [], fun vs => PW.val (.agg #[u2, (.int .i64 a2.2)]), []⟩, ⟨2, [], fun vs => PW.own x10, []⟩] [[], [], [1]] 2 rfl (by kernel_rfl) (by kernel_rfl) rfl ?_ ?_
            · refine StepsE_cons rfl ?_ ?_
              · intro w18 hB17
                refine DepsE_nil ?_
                refine ⟨_, rfl, ?_⟩
                refine WL_load_box_agg [v6, (.int .i64 x6.2)] (hC16.grow hB17) 1 rfl rfl rfl Try.isAgg102 Try.sizeOf102 rfl rfl ?_
                refine WL_nil ?_
                exact FinE_val (Below.refl _ _) rfl rfl ⟨rfl, rfl⟩
              refine StepsE_cons rfl ?_ ?_
              · intro w18 hB17
                refine DepsE_nil ?_
                refine ⟨_, rfl, ?_⟩
                refine WL_load_box_agg [u2, (.int .i64 a2.2)] (hC16.grow hB17) 6 rfl rfl rfl Try.isAgg97 Try.sizeOf97 rfl rfl ?_
                refine WL_nil ?_
                exact FinE_val (Below.refl _ _) rfl rfl ⟨rfl, rfl⟩
              refine StepsE_cons rfl ?_ ?_
              · intro w18 hB17
                refine DepsE_cons rfl rfl rfl ?_
                rintro _ _ ⟨rfl, rfl⟩ _
                refine DepsE_nil ?_
                refine ⟨_, rfl, ?_⟩
                refine WL_call Try.call66 rfl rfl (c_Q_toSource (a2.1, a2.2) u2 (g2.now (hC16.keep.then hB17)) x10 hr10) ?_
                rintro v8 w17 ⟨hB16, F6, hv10, hn7, hb7⟩
                refine WL_nil ?_
                exact FinE_own hB16 rfl rfl hv10 hn7 hb7 (Val.inh hv10)
              exact StepsE_nil
            · intro w19 hB18
              refine AllE_cons rfl rfl rfl ?_
              rintro _ _ ⟨rfl, rfl⟩
              refine AllE_cons rfl rfl rfl ?_
              rintro _ _ ⟨rfl, rfl⟩
              refine AllE_cons rfl rfl rfl ?_
              intro v8 F6 hv10
              refine AllE_nil ?_
              intro hn8 hb8
              have hC17 := hC16.pushL hB18 (Bs := [Item.own v8 (x10 : ((List (Int × (List Int))) × Int))]) (Fs := [F6]) ⟨F6, _, rfl, hv10, rfl⟩ (by simpa using hn8) (fun b h => (hb8 b (by simpa using h)).1)
              obtain ⟨v10, rfl, hC18⟩ := st102_own hC17
              obtain ⟨x11, hr11, hF⟩ := bind_some hF
              refine WA_one 3 (by kernel_rfl) rfl ?_
              refine WL_call Try.call68 rfl rfl (c_Q_eqSource (x6.1, x6.2) v6 ((hC18.ro 3 rfl).now (Keep.refl _ _)) x10 v10 ((hC18.ro 0 rfl).now (Keep.refl _ _)) x11 hr11) ?_
              intro _ w20 hv11
              obtain ⟨rfl, hB19⟩ := res_bool hv11
              have hC19 := hC18.grow hB19
              refine WL_nil ?_
              refine WA_take 4 rfl (by kernel_rfl) (by kernel_rfl) (by kernel_rfl) rfl (fl_not rfl) ?_
              refine WL_not rfl rfl ?_
              refine WL_nil ?_
              refine WA_done (by kernel_rfl) ?_
              refine nrm_normal ?_
              refine W_cond rfl (fun hc5 => ?_) (fun hc5 => ?_)
              · replace hF := ite_t hF hc5
                refine W_seq_reg ?_
                refine WL_assign rfl rfl ?_
                refine WL_nil ?_
                refine W_ret ?_
                refine nrm_ret ?_
                have hq5 := Option.some.inj hF
                subst hq5
                refine fn_ret1 rfl rfl ?_
                exact ⟨_, rfl, bool_res hC19 _⟩
              · replace hF := ite_f hF hc5
                refine W_skip ?_
                refine nrm_normal ?_
                refine W_seq_reg ?_
                refine WL_assign rfl rfl ?_
                refine WL_nil ?_
                refine W_ret ?_
                have hq6 := Option.some.inj hF
                subst hq6
                refine fn_ret1 rfl rfl ?_
                exact ⟨_, rfl, bool_res hC19 _⟩

end Go.Gx.Px
