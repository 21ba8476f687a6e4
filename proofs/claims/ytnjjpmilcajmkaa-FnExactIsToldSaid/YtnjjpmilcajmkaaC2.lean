/- The contracts of the Go functions against the pure functions, printed by program. Conditions: each says them. -/
import Derived.Test.YtnjjpmilcajmkaaC1
set_option linter.unusedVariables false
set_option linter.unusedSimpArgs false
set_option maxRecDepth 100000
namespace Go.Gx.Px
open Go.Proofs Go.RowKit

theorem c_M_IsFact {w0 : World} (a1 : (List Int)) (u1 : Value) (g1 : RO [] w0 u1 a1) (a2 : (Int × (List Int))) (u2 : Value) (g2 : RO [] w0 u2 a2.2) (rr : Bool) (hF : M.IsFact a1 a2 = some rr) :
    Calls Try.prog 147 [u1, (.agg #[(.int .i64 a2.1), u2])].toArray w0 fun e w' => ∃ v, e = .returned v ∧ Res w0 rr v w' := by
  refine calls_of_W Try.func147 rfl rfl ?_
  have hC0 := Ctx.start w0
  unfold M.IsFact at hF
  refine W_seq_reg ?_
  refine WL_box (cs := [(.int .i64 a2.1), u2]) hC0 rfl rfl rfl (fun b1 w1 hC1 hB1 => ?_)
  refine WL_assign rfl rfl ?_
  refine WL_nil ?_
  obtain ⟨r1, hr1, hF⟩ := bind_some hF
  refine W_cut (fun l w => ∃ x1 : Bool, x1 = r1 ∧ l = [(4, (.bool x1))] ∧ Below w1.heap.size w1 w ∧ Ctx [] w0 w []) ?_ ?_
  · refine W_drawn 21 rfl hmix (fun w3 hB3 => ?_)
    have hC3 := hC1.grow hB3
    refine WA_take 0 rfl (by kernel_rfl) (by kernel_rfl) (by kernel_rfl) rfl (fl_move rfl) ?_
    refine WL_move rfl rfl ?_
    refine WL_nil ?_
    refine WA_take 1 rfl (by kernel_rfl) (by kernel_rfl) (by kernel_rfl) rfl (fl_field Try.underlying165 rfl rfl (fun w => ⟨_, Try.sizeOf3 w⟩) rfl) ?_
    refine WL_field Try.underlying165 rfl rfl (fun w => ⟨_, Try.sizeOf3 w⟩) rfl rfl ?_
    refine WL_nil ?_
    refine WA_one 2 (by kernel_rfl) rfl ?_
    refine WL_load_box hC3 0 rfl rfl Try.isAgg3 rfl rfl ?_
    refine WL_nil ?_
    obtain ⟨x2, hr2, hr1⟩ := bind_some hr1
    refine WA_one 3 (by kernel_rfl) rfl ?_
    refine WL_call Try.call179 rfl rfl (c_M_hasRel a1 u1 (g1.now hC3.keep) a2.1 x2 hr2) ?_
    intro _ w4 hv1
    obtain ⟨rfl, hB4⟩ := res_bool hv1
    have hC4 := hC3.grow hB4
    refine WL_nil ?_
    refine WA_take 4 rfl (by kernel_rfl) (by kernel_rfl) (by kernel_rfl) rfl (fl_move rfl) ?_
    refine WL_move rfl rfl ?_
    refine WL_nil ?_
    refine WA_fork (fun hc1 => ?_) (fun hc1 => ?_)
    · replace hr1 := ite_t hr1 hc1
      refine WA_takeG 5 rfl (by kernel_rfl) (by kernel_rfl) (by kernel_rfl) rfl rfl rfl (fl_field Try.underlying165 rfl rfl (fun w => ⟨_, Try.sizeOf22 w⟩) rfl) ?_
      refine WL_guard rfl rfl ?_
      refine WL_field Try.underlying165 rfl rfl (fun w => ⟨_, Try.sizeOf22 w⟩) rfl rfl ?_
      refine WL_nil ?_
      refine WA_takeG 8 rfl (by kernel_rfl) (by kernel_rfl) (by kernel_rfl) rfl rfl rfl (fl_move rfl) ?_
      refine WL_guard rfl rfl ?_
      refine WL_move rfl rfl ?_
      refine WL_nil ?_
      refine WA_takeG 9 rfl (by kernel_rfl) (by kernel_rfl) (by kernel_rfl) rfl rfl rfl (fl_field Try.underlying165 rfl rfl (fun w => ⟨_, Try.sizeOf3 w⟩) rfl) ?_
      refine WL_guard rfl rfl ?_
      refine WL_field Try.underlying165 rfl rfl (fun w => ⟨_, Try.sizeOf3 w⟩) rfl rfl ?_
      refine WL_nil ?_
      obtain ⟨x3, hx1, hr1⟩ := bind_some hr1
      refine WA.sub (l' := [(0, u1), (1, (.agg #[(.int .i64 a2.1), u2])), (3, (ptr b1 0)), (4, (.bool false)), (5, u1), (6, (ptr b1 0)), (7, (.int .i64 a2.1)), (8, (.bool x2)), (9, (.bool true)), (10, (ptr b1 1)), (13, u1), (14, (ptr b1 0))]) ?_ ⟨rfl, rfl, rfl, rfl, rfl, rfl, rfl, rfl, rfl, rfl, rfl, rfl, trivial⟩
      refine WA_postsE [⟨6, [], fun vs => PW.val u2, []⟩, ⟨7, [], fun vs => PW.val (.int .i64 (List.length a2.2 : Int)), []⟩, ⟨10, [], fun vs => PW.val (.int .i64 a2.1), []⟩, ⟨11, [], fun vs => PW.at [] w0 x3, []⟩, ⟨12, [], fun vs => PW.val (.int .i64 x3), []⟩] [[], [6], [], [10], [11]] 8 rfl (by kernel_rfl) (by kernel_rfl) rfl ?_ ?_
      · refine StepsE_cons rfl ?_ ?_
        · intro w5 hB5
          refine DepsE_nil ?_
          refine ⟨_, rfl, ?_⟩
          refine WL_guard rfl rfl ?_
          refine WL_load_box (hC4.grow hB5) 0 rfl rfl Try.isAgg22 rfl rfl ?_
          refine WL_nil ?_
          exact FinE_val (Below.refl _ _) rfl rfl ⟨rfl, rfl⟩
        refine StepsE_cons rfl ?_ ?_
        · intro w5 hB5
          refine DepsE_cons rfl rfl rfl ?_
          rintro _ _ ⟨rfl, rfl⟩ _
          refine DepsE_nil ?_
          refine ⟨_, rfl, ?_⟩
          refine WL_guard rfl rfl ?_
          refine WL_len Try.underlying22 g2 rfl rfl ?_
          refine WL_nil ?_
          exact FinE_val (Below.refl _ _) rfl rfl ⟨rfl, rfl⟩
        refine StepsE_cons rfl ?_ ?_
        · intro w5 hB5
          refine DepsE_nil ?_
          refine ⟨_, rfl, ?_⟩
          refine WL_guard rfl rfl ?_
          refine WL_load_box (hC4.grow hB5) 0 rfl rfl Try.isAgg3 rfl rfl ?_
          refine WL_nil ?_
          exact FinE_val (Below.refl _ _) rfl rfl ⟨rfl, rfl⟩
        refine StepsE_cons rfl ?_ ?_
        · intro w5 hB5
          refine DepsE_cons rfl rfl rfl ?_
          rintro _ _ ⟨rfl, rfl⟩ _
          refine DepsE_nil ?_
          refine ⟨_, rfl, ?_⟩
          refine WL_guard rfl rfl ?_
          refine WL_index Try.underlying22 ty3 g1 hx1 rfl rfl rfl (fun b2 o1 h1 => ?_)
          refine WL_nil ?_
          exact FinE_val (Below.refl _ _) rfl rfl ⟨rfl, _, _, rfl, h1⟩
        refine StepsE_cons rfl ?_ ?_
        · intro w5 hB5
          refine DepsE_cons rfl rfl rfl ?_
          rintro _ _ ⟨rfl, b2, o1, rfl, h1⟩ _
          refine DepsE_nil ?_
          refine ⟨_, rfl, ?_⟩
          refine WL_guard rfl rfl ?_
          refine WL_load ty3 h1 (hC4.keep.then hB5) rfl rfl (fun v1 h2 => ?_)
          obtain rfl := ro_int h2
          refine WL_nil ?_
          exact FinE_val (Below.refl _ _) rfl rfl ⟨rfl, rfl⟩
        exact StepsE_nil
      · intro w6 hB6
        refine AllE_cons rfl rfl rfl ?_
        rintro _ _ ⟨rfl, rfl⟩
        refine AllE_cons rfl rfl rfl ?_
        rintro _ _ ⟨rfl, rfl⟩
        refine AllE_cons rfl rfl rfl ?_
        rintro _ _ ⟨rfl, rfl⟩
        refine AllE_cons rfl rfl rfl ?_
        rintro _ _ ⟨rfl, b2, o1, rfl, h1⟩
        refine AllE_cons rfl rfl rfl ?_
        rintro _ _ ⟨rfl, rfl⟩
        refine AllE_nil ?_
        intro hn1 hb1
        have hC5 := hC4.grow hB6
        refine WA_takeG 13 rfl (by kernel_rfl) (by kernel_rfl) (by kernel_rfl) rfl rfl rfl (fl_eql rfl rfl) ?_
        refine WL_guard rfl rfl ?_
        refine WL_eql rfl rfl rfl ?_
        refine WL_nil ?_
        refine WA_take 14 rfl (by kernel_rfl) (by kernel_rfl) (by kernel_rfl) rfl (fl_pick_t rfl rfl) ?_
        refine WL_pick_t rfl rfl rfl ?_
        refine WL_nil ?_
        refine WA_take 15 rfl (by kernel_rfl) (by kernel_rfl) (by kernel_rfl) rfl (fl_move rfl) ?_
        refine WL_move rfl rfl ?_
        refine WL_nil ?_
        refine WA_fork (fun hc2 => ?_) (fun hc2 => ?_)
        · replace hr1 := ite_t hr1 hc2
          refine WA_takeG 16 rfl (by kernel_rfl) (by kernel_rfl) (by kernel_rfl) rfl rfl rfl (fl_field Try.underlying165 rfl rfl (fun w => ⟨_, Try.sizeOf22 w⟩) rfl) ?_
          refine WL_guard rfl rfl ?_
          refine WL_field Try.underlying165 rfl rfl (fun w => ⟨_, Try.sizeOf22 w⟩) rfl rfl ?_
          refine WL_nil ?_
          refine WA_one 17 (by kernel_rfl) rfl ?_
          refine WL_guard rfl rfl ?_
          refine WL_load_box hC5 0 rfl rfl Try.isAgg22 rfl rfl ?_
          refine WL_nil ?_
          obtain ⟨x4, hr3, hr1⟩ := bind_some hr1
          refine WA_one 18 (by kernel_rfl) rfl ?_
          refine WL_guard rfl rfl ?_
          refine WL_call Try.call152 rfl rfl (c_M_areValues a2.2 u2 (g2.now hC5.keep) x4 hr3) ?_
          intro _ w7 hv2
          obtain ⟨rfl, hB7⟩ := res_bool hv2
          have hC6 := hC5.grow hB7
          refine WL_nil ?_
          refine WA_take 19 rfl (by kernel_rfl) (by kernel_rfl) (by kernel_rfl) rfl (fl_pick_t rfl rfl) ?_
          refine WL_pick_t rfl rfl rfl ?_
          refine WL_nil ?_
          refine WA_take 20 rfl (by kernel_rfl) (by kernel_rfl) (by kernel_rfl) rfl (fl_assign rfl) ?_
          refine WL_assign rfl rfl ?_
          refine WL_nil ?_
          refine WA_done (by kernel_rfl) ?_
          have hq1 := Option.some.inj hr1
          subst hq1
          have hC7 : Ctx [] w0 _ [] := hC6.headN 0
          refine nrm_sub (l' := [(4, (.bool x4))]) ⟨rfl, trivial⟩ ?_
          exact ⟨x4, rfl, rfl, ((((Keep.of hB3).then hB4).then hB6).then hB7).below, hC7⟩
        · replace hr1 := ite_f hr1 hc2
          refine WA_skip 16 rfl (by kernel_rfl) (by kernel_rfl) (by kernel_rfl) rfl rfl rfl (by simp) rfl rfl ?_
          refine WA_skip 17 rfl (by kernel_rfl) (by kernel_rfl) (by kernel_rfl) rfl rfl rfl (by simp) rfl rfl ?_
          refine WA_skip 18 rfl (by kernel_rfl) (by kernel_rfl) (by kernel_rfl) rfl rfl rfl (by simp) rfl rfl ?_
          refine WA_take 19 rfl (by kernel_rfl) (by kernel_rfl) (by kernel_rfl) rfl (fl_pick_f rfl rfl) ?_
          refine WL_pick_f rfl rfl rfl ?_
          refine WL_nil ?_
          refine WA_take 20 rfl (by kernel_rfl) (by kernel_rfl) (by kernel_rfl) rfl (fl_assign rfl) ?_
          refine WL_assign rfl rfl ?_
          refine WL_nil ?_
          refine WA_done (by kernel_rfl) ?_
          have hq2 := Option.some.inj hr1
          subst hq2
          have hC8 : Ctx [] w0 _ [] := hC5.headN 0
          refine nrm_sub (l' := [(4, (.bool false))]) ⟨rfl, trivial⟩ ?_
          exact ⟨false, rfl, rfl, (((Keep.of hB3).then hB4).then hB6).below, hC8⟩
    · replace hr1 := ite_f hr1 hc1
      refine WA_skip 5 rfl (by kernel_rfl) (by kernel_rfl) (by kernel_rfl) rfl rfl rfl (by simp) rfl rfl ?_
      refine WA_skip 6 rfl (by kernel_rfl) (by kernel_rfl) (by kernel_rfl) rfl rfl rfl (by simp) rfl rfl ?_
      refine WA_skip 7 rfl (by kernel_rfl) (by kernel_rfl) (by kernel_rfl) rfl rfl rfl (by simp) rfl rfl ?_
      refine WA_skip 8 rfl (by kernel_rfl) (by kernel_rfl) (by kernel_rfl) rfl rfl rfl (by simp) rfl rfl ?_
      refine WA_skip 9 rfl (by kernel_rfl) (by kernel_rfl) (by kernel_rfl) rfl rfl rfl (by simp) rfl rfl ?_
      refine WA_skip 10 rfl (by kernel_rfl) (by kernel_rfl) (by kernel_rfl) rfl rfl rfl (by simp) rfl rfl ?_
      refine WA_skip 11 rfl (by kernel_rfl) (by kernel_rfl) (by kernel_rfl) rfl rfl rfl (by simp) rfl rfl ?_
      refine WA_skip 12 rfl (by kernel_rfl) (by kernel_rfl) (by kernel_rfl) rfl rfl rfl (by simp) rfl rfl ?_
      refine WA_skip 13 rfl (by kernel_rfl) (by kernel_rfl) (by kernel_rfl) rfl rfl rfl (by simp) rfl rfl ?_
      refine WA_take 14 rfl (by kernel_rfl) (by kernel_rfl) (by kernel_rfl) rfl (fl_pick_f rfl rfl) ?_
      refine WL_pick_f rfl rfl rfl ?_
      refine WL_nil ?_
      refine WA_take 15 rfl (by kernel_rfl) (by kernel_rfl) (by kernel_rfl) rfl (fl_move rfl) ?_
      refine WL_move rfl rfl ?_
      refine WL_nil ?_
      refine WA_skip 16 rfl (by kernel_rfl) (by kernel_rfl) (by kernel_rfl) rfl rfl rfl (by simp) rfl rfl ?_
      refine WA_skip 17 rfl (by kernel_rfl) (by kernel_rfl) (by kernel_rfl) rfl rfl rfl (by simp) rfl rfl ?_
      refine WA_skip 18 rfl (by kernel_rfl) (by kernel_rfl) (by kernel_rfl) rfl rfl rfl (by simp) rfl rfl ?_
      refine WA_take 19 rfl (by kernel_rfl) (by kernel_rfl) (by kernel_rfl) rfl (fl_pick_f rfl rfl) ?_
      refine WL_pick_f rfl rfl rfl ?_
      refine WL_nil ?_
      refine WA_take 20 rfl (by kernel_rfl) (by kernel_rfl) (by kernel_rfl) rfl (fl_assign rfl) ?_
      refine WL_assign rfl rfl ?_
      refine WL_nil ?_
      refine WA_done (by kernel_rfl) ?_
      have hq3 := Option.some.inj hr1
      subst hq3
      have hC9 : Ctx [] w0 _ [] := hC4.headN 0
      refine nrm_sub (l' := [(4, (.bool false))]) ⟨rfl, trivial⟩ ?_
      exact ⟨false, rfl, rfl, ((Keep.of hB3).then hB4).below, hC9⟩
  · rintro _ w2 ⟨x1, rfl, rfl, hB2, hC2⟩
    try dsimp only at hF
    refine W_ret ?_
    have hq4 := Option.some.inj hF
    subst hq4
    refine fn_ret1 rfl rfl ?_
    exact ⟨_, rfl, bool_res hC2 _⟩

theorem c_Cmp_Or_int {w0 : World} (a1 : (List Int)) (u1 : Value) (g1 : RO [] w0 u1 a1) (rr : Int) (hF : Cmp.Or_int a1 = some rr) :
    Calls Try.prog 180 [u1].toArray w0 fun e w' => ∃ v, e = .returned v ∧ Res w0 rr v w' := by
  refine calls_of_W Try.func180 rfl rfl ?_
  have hC0 := Ctx.start w0
  unfold Cmp.Or_int at hF
  refine W_seq_reg ?_
  refine WL_assign rfl rfl ?_
  refine WL_nil ?_
  refine W_seq_reg ?_
  refine WL_assign rfl rfl ?_
  refine WL_nil ?_
  refine W_seq ?_
  refine W_seq_reg ?_
  refine WL_move rfl rfl ?_
  refine WL_len Try.underlying22 g1 rfl rfl ?_
  refine WL_move rfl rfl ?_
  refine WL_nil ?_
  obtain ⟨r1, hr1, hF⟩ := bind_some hF
  refine W_norm (fun l w => .inl () = r1 ∧ l = [(3, (.int .i64 0))] ∧ Below w0.heap.size w0 w ∧ Ctx [] w0 w []) ?_ ?_
  · refine W_block ?_
    refine W.sub (l' := [(3, (.int .i64 0)), (6, u1), (7, (.int .i64 (List.length a1 : Int))), (8, (.int .i64 0))]) ?_ ⟨rfl, rfl, rfl, rfl, trivial⟩
    refine W_loop (fun k l w => ∃ x1 : Int, l = [(3, (.int .i64 0)), (6, u1), (7, (.int .i64 (List.length a1 : Int))), (8, (.int .i64 x1))] ∧ Below w0.heap.size w0 w ∧ Ctx [] w0 w [] ∧ Cmp.Or_int_l1 a1 k x1 = some r1) FUEL ⟨0, rfl, (Below.refl _ _), hC0, hr1⟩ ?_
    clear hr1
    rintro k1 _ w1 ⟨x1, rfl, hB1, hC1, hL1⟩
    cases k1 with
    | zero => rw [Cmp.Or_int_l1] at hL1; cases hL1
    | succ k1 =>
      rw [Cmp.Or_int_l1] at hL1
      refine W_seq_reg ?_
      refine WL_lss rfl rfl rfl ?_
      refine WL_nil ?_
      refine W_seq ?_
      refine W_cond rfl (fun hc1 => ?_) (fun hc1 => ?_)
      · replace hL1 := ite_t hL1 hc1
        refine W_skip ?_
        refine nrm_normal ?_
        refine W_seq ?_
        refine W_block ?_
        refine W_seq_reg ?_
        obtain ⟨x2, hx1, hL1⟩ := bind_some hL1
        refine WL_index Try.underlying22 ty3 g1 hx1 rfl rfl rfl (fun b1 o1 h1 => ?_)
        refine WL_load ty3 h1 hC1.keep rfl rfl (fun v1 h2 => ?_)
        obtain rfl := ro_int h2
        refine WL_assign rfl rfl ?_
        refine WL_nil ?_
        refine W_seq_reg ?_
        refine WL_move rfl rfl ?_
        refine WL_move rfl rfl ?_
        refine WL_neq rfl rfl rfl ?_
        refine WL_nil ?_
        refine W_cond rfl (fun hc2 => ?_) (fun hc2 => ?_)
        · replace hL1 := ite_t hL1 hc2
          refine W_seq_reg ?_
          refine WL_move rfl rfl ?_
          refine WL_assign rfl rfl ?_
          refine WL_nil ?_
          refine W_ret ?_
          refine blk_ret ?_
          refine nrm_ret ?_
          refine nrm_ret ?_
          refine blk_ret ?_
          refine nrm_ret ?_
          refine nrm_ret ?_
          have hq1 := Option.some.inj hL1
          subst hq1
          dsimp only at hF
          have hq2 := Option.some.inj hF
          subst hq2
          refine fn_ret1 rfl rfl ?_
          exact ⟨_, rfl, int_res hC1 _⟩
        · replace hL1 := ite_f hL1 hc2
          refine W_skip ?_
          refine blk_normal ?_
          refine nrm_normal ?_
          refine W_reg ?_
          refine WL_add rfl rfl rfl ?_
          refine WL_move rfl rfl ?_
          refine WL_nil ?_
          refine nrm_sub (l' := [(3, (.int .i64 0)), (6, u1), (7, (.int .i64 (List.length a1 : Int))), (8, (.int .i64 (w64 (x1 + 1))))]) ⟨rfl, rfl, rfl, rfl, trivial⟩ ?_
          exact ⟨k1, Nat.lt_succ_self _, w64 (x1 + 1), rfl, (Keep.of hB1).below, hC1, hL1⟩
      · replace hL1 := ite_f hL1 hc1
        refine W_exit ?_
        refine nrm_exit ?_
        refine nrm_exit ?_
        refine blk_exit ?_
        have hq3 := Option.some.inj hL1
        subst hq3
        refine nrm_sub (l' := [(3, (.int .i64 0))]) ⟨rfl, trivial⟩ ?_
        exact ⟨rfl, rfl, (Keep.of hB1).below, hC1⟩
  · rintro l2 _ w2 hs2 ⟨rfl, rfl, hB2, hC2⟩
    try dsimp only at hF
    refine nrm_sub' hs2 ?_
    clear hs2
    refine W_seq_reg ?_
    refine WL_move rfl rfl ?_
    refine WL_assign rfl rfl ?_
    refine WL_nil ?_
    refine W_ret ?_
    have hq4 := Option.some.inj hF
    subst hq4
    refine fn_ret1 rfl rfl ?_
    exact ⟨_, rfl, int_res hC2 _⟩

theorem c_Cmp_isNaN_int {w0 : World} (a1 : Int) (rr : Bool) (hF : Cmp.isNaN_int a1 = some rr) :
    Calls Try.prog 194 [(.int .i64 a1)].toArray w0 fun e w' => ∃ v, e = .returned v ∧ Res w0 rr v w' := by
  refine calls_of_W Try.func194 rfl rfl ?_
  have hC0 := Ctx.start w0
  unfold Cmp.isNaN_int at hF
  refine W_seq_reg ?_
  refine WL_assign rfl rfl ?_
  refine WL_nil ?_
  refine W_seq_reg ?_
  refine WL_move rfl rfl ?_
  refine WL_move rfl rfl ?_
  refine WL_neq rfl rfl rfl ?_
  refine WL_assign rfl rfl ?_
  refine WL_nil ?_
  refine W_ret ?_
  have hq1 := Option.some.inj hF
  subst hq1
  refine fn_ret1 rfl rfl ?_
  exact ⟨_, rfl, bool_res hC0 _⟩

theorem c_Cmp_Compare_int {w0 : World} (a1 : Int) (a2 : Int) (rr : Int) (hF : Cmp.Compare_int a1 a2 = some rr) :
    Calls Try.prog 181 [(.int .i64 a1), (.int .i64 a2)].toArray w0 fun e w' => ∃ v, e = .returned v ∧ Res w0 rr v w' := by
  refine calls_of_W Try.func181 rfl rfl ?_
  have hC0 := Ctx.start w0
  unfold Cmp.Compare_int at hF
  refine W_seq_reg ?_
  refine WL_assign rfl rfl ?_
  refine WL_nil ?_
  refine W_seq_reg ?_
  refine WL_move rfl rfl ?_
  obtain ⟨x1, hr1, hF⟩ := bind_some hF
  refine WL_call Try.call194 rfl rfl (c_Cmp_isNaN_int a1 x1 hr1) ?_
  intro _ w1 hv1
  obtain ⟨rfl, hB1⟩ := res_bool hv1
  have hC1 := hC0.grow hB1
  refine WL_assign rfl rfl ?_
  refine WL_nil ?_
  refine W_seq_reg ?_
  refine WL_move rfl rfl ?_
  obtain ⟨x2, hr2, hF⟩ := bind_some hF
  refine WL_call Try.call194 rfl rfl (c_Cmp_isNaN_int a2 x2 hr2) ?_
  intro _ w2 hv2
  obtain ⟨rfl, hB2⟩ := res_bool hv2
  have hC2 := hC1.grow hB2
  refine WL_assign rfl rfl ?_
  refine WL_nil ?_
  refine W_seq ?_
  refine W_seq_reg ?_
  refine WL_move rfl rfl ?_
  refine WL_nil ?_
  refine W_cond rfl (fun hc1 => ?_) (fun hc1 => ?_)
  · replace hF := ite_t hF hc1
    refine W_seq ?_
    refine W_seq_reg ?_
    refine WL_move rfl rfl ?_
    refine WL_nil ?_
    refine W_cond rfl (fun hc2 => ?_) (fun hc2 => ?_)
    · replace hF := ite_t hF hc2
      refine W_seq_reg ?_
      refine WL_assign rfl rfl ?_
      refine WL_nil ?_
      refine W_ret ?_
      refine nrm_ret ?_
      refine nrm_ret ?_
      have hq1 := Option.some.inj hF
      subst hq1
      refine fn_ret1 rfl rfl ?_
      exact ⟨_, rfl, int_res hC2 _⟩
    · replace hF := ite_f hF hc2
      refine W_skip ?_
      refine nrm_normal ?_
      refine W_seq_reg ?_
      refine WL_assign rfl rfl ?_
      refine WL_nil ?_
      refine W_ret ?_
      refine nrm_ret ?_
      have hq2 := Option.some.inj hF
      subst hq2
      refine fn_ret1 rfl rfl ?_
      exact ⟨_, rfl, int_res hC2 _⟩
  · replace hF := ite_f hF hc1
    refine W_skip ?_
    refine nrm_normal ?_
    refine W_seq ?_
    refine W_seq_reg ?_
    refine WL_move rfl rfl ?_
    refine WL_nil ?_
    refine W_cond rfl (fun hc3 => ?_) (fun hc3 => ?_)
    · replace hF := ite_t hF hc3
      refine W_seq_reg ?_
      refine WL_assign rfl rfl ?_
      refine WL_nil ?_
      refine W_ret ?_
      refine nrm_ret ?_
      have hq3 := Option.some.inj hF
      subst hq3
      refine fn_ret1 rfl rfl ?_
      exact ⟨_, rfl, int_res hC2 _⟩
    · replace hF := ite_f hF hc3
      refine W_skip ?_
      refine nrm_normal ?_
      refine W_seq ?_
      refine W_seq_reg ?_
      refine WL_move rfl rfl ?_
      refine WL_move rfl rfl ?_
      refine WL_lss rfl rfl rfl ?_
      refine WL_nil ?_
      refine W_cond rfl (fun hc4 => ?_) (fun hc4 => ?_)
      · replace hF := ite_t hF hc4
        refine W_seq_reg ?_
        refine WL_assign rfl rfl ?_
        refine WL_nil ?_
        refine W_ret ?_
        refine nrm_ret ?_
        have hq4 := Option.some.inj hF
        subst hq4
        refine fn_ret1 rfl rfl ?_
        exact ⟨_, rfl, int_res hC2 _⟩
      · replace hF := ite_f hF hc4
        refine W_skip ?_
        refine nrm_normal ?_
        refine W_seq ?_
        refine W_seq_reg ?_
        refine WL_move rfl rfl ?_
        refine WL_move rfl rfl ?_
        refine WL_gtr rfl rfl rfl ?_
        refine WL_nil ?_
        refine W_cond rfl (fun hc5 => ?_) (fun hc5 => ?_)
        · replace hF := ite_t hF hc5
          refine W_seq_reg ?_
          refine WL_assign rfl rfl ?_
          refine WL_nil ?_
          refine W_ret ?_
          refine nrm_ret ?_
          have hq5 := Option.some.inj hF
          subst hq5
          refine fn_ret1 rfl rfl ?_
          exact ⟨_, rfl, int_res hC2 _⟩
        · replace hF := ite_f hF hc5
          refine W_skip ?_
          refine nrm_normal ?_
          refine W_seq_reg ?_
          refine WL_assign rfl rfl ?_
          refine WL_nil ?_
          refine W_ret ?_
          have hq6 := Option.some.inj hF
          subst hq6
          refine fn_ret1 rfl rfl ?_
          exact ⟨_, rfl, int_res hC2 _⟩

theorem c_Slices_Compare_Lint_int {w0 : World} (a1 : (List Int)) (u1 : Value) (g1 : RO [] w0 u1 a1) (a2 : (List Int)) (u2 : Value) (g2 : RO [] w0 u2 a2) (rr : Int) (hF : Slices.Compare_Lint_int a1 a2 = some rr) :
    Calls Try.prog 182 [u1, u2].toArray w0 fun e w' => ∃ v, e = .returned v ∧ Res w0 rr v w' := by
  refine calls_of_W Try.func182 rfl rfl ?_
  have hC0 := Ctx.start w0
  unfold Slices.Compare_Lint_int at hF
  refine W_seq_reg ?_
  refine WL_assign rfl rfl ?_
  refine WL_nil ?_
  refine W_seq ?_
  refine W_seq_reg ?_
  refine WL_move rfl rfl ?_
  refine WL_len Try.underlying22 g1 rfl rfl ?_
  refine WL_move rfl rfl ?_
  refine WL_nil ?_
  obtain ⟨r1, hr1, hF⟩ := bind_some hF
  refine W_norm (fun l w => .inl () = r1 ∧ l = [(0, u1), (1, u2)] ∧ Below w0.heap.size w0 w ∧ Ctx [] w0 w []) ?_ ?_
  · refine W_block ?_
    refine W.sub (l' := [(0, u1), (1, u2), (9, u1), (10, (.int .i64 (List.length a1 : Int))), (11, (.int .i64 0))]) ?_ ⟨rfl, rfl, rfl, rfl, rfl, trivial⟩
    refine W_loop (fun k l w => ∃ x1 : Int, l = [(0, u1), (1, u2), (9, u1), (10, (.int .i64 (List.length a1 : Int))), (11, (.int .i64 x1))] ∧ Below w0.heap.size w0 w ∧ Ctx [] w0 w [] ∧ Slices.Compare_Lint_int_l1 a1 a2 k x1 = some r1) FUEL ⟨0, rfl, (Below.refl _ _), hC0, hr1⟩ ?_
    clear hr1
    rintro k1 _ w1 ⟨x1, rfl, hB1, hC1, hL1⟩
    cases k1 with
    | zero => rw [Slices.Compare_Lint_int_l1] at hL1; cases hL1
    | succ k1 =>
      rw [Slices.Compare_Lint_int_l1] at hL1
      refine W_seq_reg ?_
      refine WL_lss rfl rfl rfl ?_
      refine WL_nil ?_
      refine W_seq ?_
      refine W_cond rfl (fun hc1 => ?_) (fun hc1 => ?_)
      · replace hL1 := ite_t hL1 hc1
        refine W_skip ?_
        refine nrm_normal ?_
        refine W_seq ?_
        refine W_block ?_
        refine W_seq_reg ?_
        refine WL_move rfl rfl ?_
        obtain ⟨x2, hx1, hL1⟩ := bind_some hL1
        refine WL_index Try.underlying22 ty3 g1 hx1 rfl rfl rfl (fun b1 o1 h1 => ?_)
        refine WL_load ty3 h1 hC1.keep rfl rfl (fun v1 h2 => ?_)
        obtain rfl := ro_int h2
        refine WL_assign rfl rfl ?_
        refine WL_assign rfl rfl ?_
        refine WL_nil ?_
        refine W_seq ?_
        refine W_seq_reg ?_
        refine WL_move rfl rfl ?_
        refine WL_move rfl rfl ?_
        refine WL_len Try.underlying22 g2 rfl rfl ?_
        refine WL_geq rfl rfl rfl ?_
        refine WL_nil ?_
        refine W_cond rfl (fun hc2 => ?_) (fun hc2 => ?_)
        · replace hL1 := ite_t hL1 hc2
          refine W_seq_reg ?_
          refine WL_assign rfl rfl ?_
          refine WL_nil ?_
          refine W_ret ?_
          refine nrm_ret ?_
          refine blk_ret ?_
          refine nrm_ret ?_
          refine nrm_ret ?_
          refine blk_ret ?_
          refine nrm_ret ?_
          refine nrm_ret ?_
          have hq1 := Option.some.inj hL1
          subst hq1
          dsimp only at hF
          have hq2 := Option.some.inj hF
          subst hq2
          refine fn_ret1 rfl rfl ?_
          exact ⟨_, rfl, int_res hC1 _⟩
        · replace hL1 := ite_f hL1 hc2
          refine W_skip ?_
          refine nrm_normal ?_
          refine W_seq_reg ?_
          refine WL_move rfl rfl ?_
          refine WL_move rfl rfl ?_
          obtain ⟨x3, hx2, hL1⟩ := bind_some hL1
          refine WL_index Try.underlying22 ty3 g2 hx2 rfl rfl rfl (fun b2 o2 h3 => ?_)
          refine WL_load ty3 h3 hC1.keep rfl rfl (fun v2 h4 => ?_)
          obtain rfl := ro_int h4
          refine WL_assign rfl rfl ?_
          refine WL_nil ?_
          refine W_seq_reg ?_
          refine WL_move rfl rfl ?_
          refine WL_move rfl rfl ?_
          obtain ⟨x4, hr2, hL1⟩ := bind_some hL1
          refine WL_call Try.call181 rfl rfl (c_Cmp_Compare_int x2 x3 x4 hr2) ?_
          intro _ w2 hv1
          obtain ⟨rfl, hB2⟩ := res_int hv1
          have hC2 := hC1.grow hB2
          refine WL_assign rfl rfl ?_
          refine WL_nil ?_
          refine W_seq_reg ?_
          refine WL_move rfl rfl ?_
          refine WL_neq rfl rfl rfl ?_
          refine WL_nil ?_
          refine W_cond rfl (fun hc3 => ?_) (fun hc3 => ?_)
          · replace hL1 := ite_t hL1 hc3
            refine W_seq_reg ?_
            refine WL_move rfl rfl ?_
            refine WL_assign rfl rfl ?_
            refine WL_nil ?_
            refine W_ret ?_
            refine blk_ret ?_
            refine nrm_ret ?_
            refine nrm_ret ?_
            refine blk_ret ?_
            refine nrm_ret ?_
            refine nrm_ret ?_
            have hq3 := Option.some.inj hL1
            subst hq3
            dsimp only at hF
            have hq4 := Option.some.inj hF
            subst hq4
            refine fn_ret1 rfl rfl ?_
            exact ⟨_, rfl, int_res hC2 _⟩
          · replace hL1 := ite_f hL1 hc3
            refine W_skip ?_
            refine blk_normal ?_
            refine nrm_normal ?_
            refine W_reg ?_
            refine WL_add rfl rfl rfl ?_
            refine WL_move rfl rfl ?_
            refine WL_nil ?_
            refine nrm_sub (l' := [(0, u1), (1, u2), (9, u1), (10, (.int .i64 (List.length a1 : Int))), (11, (.int .i64 (w64 (x1 + 1))))]) ⟨rfl, rfl, rfl, rfl, rfl, trivial⟩ ?_
            exact ⟨k1, Nat.lt_succ_self _, w64 (x1 + 1), rfl, ((Keep.of hB1).then hB2).below, hC2, hL1⟩
      · replace hL1 := ite_f hL1 hc1
        refine W_exit ?_
        refine nrm_exit ?_
        refine nrm_exit ?_
        refine blk_exit ?_
        have hq5 := Option.some.inj hL1
        subst hq5
        refine nrm_sub (l' := [(0, u1), (1, u2)]) ⟨rfl, rfl, trivial⟩ ?_
        exact ⟨rfl, rfl, (Keep.of hB1).below, hC1⟩
  · rintro l2 _ w3 hs2 ⟨rfl, rfl, hB3, hC3⟩
    try dsimp only at hF
    refine nrm_sub' hs2 ?_
    clear hs2
    refine W_seq ?_
    refine W_seq_reg ?_
    refine WL_move rfl rfl ?_
    refine WL_len Try.underlying22 g1 rfl rfl ?_
    refine WL_move rfl rfl ?_
    refine WL_len Try.underlying22 g2 rfl rfl ?_
    refine WL_lss rfl rfl rfl ?_
    refine WL_nil ?_
    refine W_cond rfl (fun hc4 => ?_) (fun hc4 => ?_)
    · replace hF := ite_t hF hc4
      refine W_seq_reg ?_
      refine WL_assign rfl rfl ?_
      refine WL_nil ?_
      refine W_ret ?_
      refine nrm_ret ?_
      have hq6 := Option.some.inj hF
      subst hq6
      refine fn_ret1 rfl rfl ?_
      exact ⟨_, rfl, int_res hC3 _⟩
    · replace hF := ite_f hF hc4
      refine W_skip ?_
      refine nrm_normal ?_
      refine W_seq_reg ?_
      refine WL_assign rfl rfl ?_
      refine WL_nil ?_
      refine W_ret ?_
      have hq7 := Option.some.inj hF
      subst hq7
      refine fn_ret1 rfl rfl ?_
      exact ⟨_, rfl, int_res hC3 _⟩

theorem c_M_CompareFacts {w0 : World} (a1 : (Int × (List Int))) (u1 : Value) (g1 : RO [] w0 u1 a1.2) (a2 : (Int × (List Int))) (u2 : Value) (g2 : RO [] w0 u2 a2.2) (rr : Int) (hF : M.CompareFacts a1 a2 = some rr) :
    Calls Try.prog 148 [(.agg #[(.int .i64 a1.1), u1]), (.agg #[(.int .i64 a2.1), u2])].toArray w0 fun e w' => ∃ v, e = .returned v ∧ Res w0 rr v w' := by
  refine calls_of_W Try.func148 rfl rfl ?_
  have hC0 := Ctx.start w0
  unfold M.CompareFacts at hF
  refine W_seq_reg ?_
  refine WL_box (cs := [(.int .i64 a1.1), u1]) hC0 rfl rfl rfl (fun b1 w1 hC1 hB1 => ?_)
  refine WL_box (cs := [(.int .i64 a2.1), u2]) hC1 rfl rfl rfl (fun b2 w2 hC2 hB2 => ?_)
  refine WL_assign rfl rfl ?_
  refine WL_nil ?_
  refine W_seq ?_
  refine W_drawn 13 rfl hmix (fun w3 hB3 => ?_)
  have hC3 := hC2.grow hB3
  refine WA_take 0 rfl (by kernel_rfl) (by kernel_rfl) (by kernel_rfl) rfl (fl_field Try.underlying165 rfl rfl (fun w => ⟨_, Try.sizeOf3 w⟩) rfl) ?_
  refine WL_field Try.underlying165 rfl rfl (fun w => ⟨_, Try.sizeOf3 w⟩) rfl rfl ?_
  refine WL_nil ?_
  refine WA_take 2 rfl (by kernel_rfl) (by kernel_rfl) (by kernel_rfl) rfl (fl_field Try.underlying165 rfl rfl (fun w => ⟨_, Try.sizeOf3 w⟩) rfl) ?_
  refine WL_field Try.underlying165 rfl rfl (fun w => ⟨_, Try.sizeOf3 w⟩) rfl rfl ?_
  refine WL_nil ?_
  refine WA_take 5 rfl (by kernel_rfl) (by kernel_rfl) (by kernel_rfl) rfl (fl_field Try.underlying165 rfl rfl (fun w => ⟨_, Try.sizeOf22 w⟩) rfl) ?_
  refine WL_field Try.underlying165 rfl rfl (fun w => ⟨_, Try.sizeOf22 w⟩) rfl rfl ?_
  refine WL_nil ?_
  refine WA_take 7 rfl (by kernel_rfl) (by kernel_rfl) (by kernel_rfl) rfl (fl_field Try.underlying165 rfl rfl (fun w => ⟨_, Try.sizeOf22 w⟩) rfl) ?_
  refine WL_field Try.underlying165 rfl rfl (fun w => ⟨_, Try.sizeOf22 w⟩) rfl rfl ?_
  refine WL_nil ?_
  obtain ⟨x1, hr1, hF⟩ := bind_some hF
  refine WA.sub (l' := [(0, (.agg #[(.int .i64 a1.1), u1])), (1, (.agg #[(.int .i64 a2.1), u2])), (2, (ptr b1 0)), (3, (ptr b2 0)), (4, (.int .i64 0)), (5, (ptr b1 0)), (7, (ptr b2 0)), (10, (ptr b1 1)), (12, (ptr b2 1))]) ?_ ⟨rfl, rfl, rfl, rfl, rfl, rfl, rfl, rfl, rfl, trivial⟩
  refine WA_postsE [⟨1, [], fun vs => PW.val (.int .i64 a1.1), []⟩, ⟨3, [], fun vs => PW.val (.int .i64 a2.1), []⟩, ⟨4, [], fun vs => PW.val (.int .i64 x1), []⟩, ⟨6, [], fun vs => PW.val u1, []⟩, ⟨8, [], fun vs => PW.val u2, []⟩] [[], [], [1, 3], [], []] 4 rfl (by kernel_rfl) (by kernel_rfl) rfl ?_ ?_
  · refine StepsE_cons rfl ?_ ?_
    · intro w5 hB5
      refine DepsE_nil ?_
      refine ⟨_, rfl, ?_⟩
      refine WL_load_box (hC3.grow hB5) 1 rfl rfl Try.isAgg3 rfl rfl ?_
      refine WL_nil ?_
      exact FinE_val (Below.refl _ _) rfl rfl ⟨rfl, rfl⟩
    refine StepsE_cons rfl ?_ ?_
    · intro w5 hB5
      refine DepsE_nil ?_
      refine ⟨_, rfl, ?_⟩
      refine WL_load_box (hC3.grow hB5) 0 rfl rfl Try.isAgg3 rfl rfl ?_
      refine WL_nil ?_
      exact FinE_val (Below.refl _ _) rfl rfl ⟨rfl, rfl⟩
    refine StepsE_cons rfl ?_ ?_
    · intro w5 hB5
      refine DepsE_cons rfl rfl rfl ?_
      rintro _ _ ⟨rfl, rfl⟩ _
      refine DepsE_cons rfl rfl rfl ?_
      rintro _ _ ⟨rfl, rfl⟩ _
      refine DepsE_nil ?_
      refine ⟨_, rfl, ?_⟩
      refine WL_call Try.call181 rfl rfl (c_Cmp_Compare_int a1.1 a2.1 x1 hr1) ?_
      intro _ w4 hv1
      obtain ⟨rfl, hB4⟩ := res_int hv1
      refine WL_nil ?_
      exact FinE_val hB4 rfl rfl ⟨rfl, rfl⟩
    refine StepsE_cons rfl ?_ ?_
    · intro w5 hB5
      refine DepsE_nil ?_
      refine ⟨_, rfl, ?_⟩
      refine WL_load_box (hC3.grow hB5) 1 rfl rfl Try.isAgg22 rfl rfl ?_
      refine WL_nil ?_
      exact FinE_val (Below.refl _ _) rfl rfl ⟨rfl, rfl⟩
    refine StepsE_cons rfl ?_ ?_
    · intro w5 hB5
      refine DepsE_nil ?_
      refine ⟨_, rfl, ?_⟩
      refine WL_load_box (hC3.grow hB5) 0 rfl rfl Try.isAgg22 rfl rfl ?_
      refine WL_nil ?_
      exact FinE_val (Below.refl _ _) rfl rfl ⟨rfl, rfl⟩
    exact StepsE_nil
  · intro w6 hB6
    refine AllE_cons rfl rfl rfl ?_
    rintro _ _ ⟨rfl, rfl⟩
    refine AllE_cons rfl rfl rfl ?_
    rintro _ _ ⟨rfl, rfl⟩
    refine AllE_cons rfl rfl rfl ?_
    rintro _ _ ⟨rfl, rfl⟩
    refine AllE_cons rfl rfl rfl ?_
    rintro _ _ ⟨rfl, rfl⟩
    refine AllE_cons rfl rfl rfl ?_
    rintro _ _ ⟨rfl, rfl⟩
    refine AllE_nil ?_
    intro hn1 hb1
    have hC4 := hC3.grow hB6
    obtain ⟨x2, hr2, hF⟩ := bind_some hF
    refine WA_one 9 (by kernel_rfl) rfl ?_
    refine WL_call Try.call182 rfl rfl (c_Slices_Compare_Lint_int a1.2 u1 (g1.now hC4.keep) a2.2 u2 (g2.now hC4.keep) x2 hr2) ?_
    intro _ w7 hv2
    obtain ⟨rfl, hB7⟩ := res_int hv2
    have hC5 := hC4.grow hB7
    refine WL_nil ?_
    refine WA_one 10 (by kernel_rfl) rfl ?_
    refine WL_buildSlice (vs := [(.int .i64 x1), (.int .i64 x2)]) hC5 Try.underlying22 ty3 rfl rfl rfl rfl (by intro v hv; simp only [List.mem_cons, List.not_mem_nil, or_false] at hv; rcases hv with rfl | rfl <;> rfl) rfl rfl (fun b3 w8 hC6 hB8 => ?_)
    have hC7 := hC6.row0 (α := Int)
    have hC8 := hC7.triv (int_val (x2))
    have hC9 := hC8.row1
    have hC10 := hC9.triv (int_val (x1))
    have hC11 := hC10.row1
    have hC12 := hC11.front 1 rfl
    dsimp only [List.eraseIdx, List.cons_append, List.nil_append, List.append_nil] at hC12
    have hC13 : Ctx [] w0 w8 (Item.own (.slice (some ⟨b3, 0, none⟩) 2 2) ([x1, x2] : List Int) :: [Item.box b2 [(.int .i64 a2.1), u2], Item.box b1 [(.int .i64 a1.1), u1]]) := hC12.rowOwn (by simp [maxLen])
    refine WL_nil ?_
    obtain ⟨x3, hr3, hF⟩ := bind_some hF
    refine WA_one 11 (by kernel_rfl) rfl ?_
    refine WL_call Try.call180 rfl rfl (c_Cmp_Or_int ([x1, x2]) (.slice (some ⟨b3, 0, none⟩) 2 2) ((hC13.ro 0 rfl).now (Keep.refl _ _)) x3 hr3) ?_
    intro _ w9 hv3
    obtain ⟨rfl, hB9⟩ := res_int hv3
    have hC14 := hC13.grow hB9
    refine WL_nil ?_
    refine WA_take 12 rfl (by kernel_rfl) (by kernel_rfl) (by kernel_rfl) rfl (fl_assign rfl) ?_
    refine WL_assign rfl rfl ?_
    refine WL_nil ?_
    refine WA_done (by kernel_rfl) ?_
    refine nrm_normal ?_
    refine W_ret ?_
    have hq1 := Option.some.inj hF
    subst hq1
    refine fn_ret1 rfl rfl ?_
    exact ⟨_, rfl, int_res hC14 _⟩

theorem c_M_AreFacts {w0 : World} (a1 : (List Int)) (u1 : Value) (g1 : RO [] w0 u1 a1) (a2 : (List (Int × (List Int)))) (u2 : Value) (g2 : RO [] w0 u2 a2) (rr : Bool) (hF : M.AreFacts a1 a2 = some rr) :
    Calls Try.prog 120 [u1, u2].toArray w0 fun e w' => ∃ v, e = .returned v ∧ Res w0 rr v w' := by
  refine calls_of_W Try.func120 rfl rfl ?_
  have hC0 := Ctx.start w0
  unfold M.AreFacts at hF
  refine W_seq_reg ?_
  refine WL_assign rfl rfl ?_
  refine WL_nil ?_
  refine W_seq ?_
  refine W_seq_reg ?_
  refine WL_move rfl rfl ?_
  refine WL_len Try.underlying100 g2 rfl rfl ?_
  refine WL_move rfl rfl ?_
  refine WL_nil ?_
  obtain ⟨r1, hr1, hF⟩ := bind_some hF
  refine W_norm (fun l w => .inl () = r1 ∧ l = [(0, u1), (1, u2)] ∧ Ctx [] w0 w []) ?_ ?_
  · refine W_block ?_
    refine W.sub (l' := [(0, u1), (1, u2), (7, u2), (8, (.int .i64 (List.length a2 : Int))), (9, (.int .i64 0))]) ?_ ⟨rfl, rfl, rfl, rfl, rfl, trivial⟩
    refine W_loop (fun k l w => ∃ x1 : Int, l = [(0, u1), (1, u2), (7, u2), (8, (.int .i64 (List.length a2 : Int))), (9, (.int .i64 x1))] ∧ Ctx [] w0 w [] ∧ M.AreFacts_l1 a2 a1 k x1 = some r1) FUEL ⟨0, rfl, hC0, hr1⟩ ?_
    clear hr1
    rintro k1 _ w1 ⟨x1, rfl, hC1, hL1⟩
    cases k1 with
    | zero => rw [M.AreFacts_l1] at hL1; cases hL1
    | succ k1 =>
      rw [M.AreFacts_l1] at hL1
      refine W_seq_reg ?_
      refine WL_lss rfl rfl rfl ?_
      refine WL_nil ?_
      refine W_seq ?_
      refine W_cond rfl (fun hc1 => ?_) (fun hc1 => ?_)
      · replace hL1 := ite_t hL1 hc1
        refine W_skip ?_
        refine nrm_normal ?_
        refine W_seq ?_
        refine W_block ?_
        refine W_seq_reg ?_
        refine WL_move rfl rfl ?_
        obtain ⟨x2, hx1, hL1⟩ := bind_some hL1
        refine WL_index Try.underlying100 ty165 g2 hx1 rfl rfl rfl (fun b1 o1 h1 => ?_)
        refine WL_load ty165 h1 hC1.keep rfl rfl (fun v1 h2 => ?_)
        obtain ⟨v2, rfl, h3⟩ := ro_st165 h2
        refine WL_alloc hC1 zero165 rfl rfl (fun b2 w2 hC2 hB2 => ?_)
        refine WL_assign rfl rfl ?_
        refine WL_store_box_agg (cs' := [(.int .i64 x2.1), v2]) (new := [(.int .i64 x2.1), v2]) hC2 0 rfl rfl (by intro v hv; simp only [List.mem_cons, List.not_mem_nil, or_false] at hv; rcases hv with rfl | rfl; exact rfl; exact (ro_one h3)) rfl Try.sizeOf165 rfl rfl (fun w3 hC3 => ?_)
        try dsimp only [List.set] at hC3
        refine WL_nil ?_
        obtain ⟨r2, hr2, hL1⟩ := bind_some hL1
        refine W_cut (fun l w => ∃ x3 : Bool, x3 = r2 ∧ l = [(0, u1), (1, u2), (7, u2), (8, (.int .i64 (List.length a2 : Int))), (9, (.int .i64 x1)), (31, (.bool x3))] ∧ Below w3.heap.size w3 w ∧ Ctx [] w0 w []) ?_ ?_
        · refine W_drawn 18 rfl hmix (fun w5 hB4 => ?_)
          have hC5 := hC3.grow hB4
          refine WA_take 0 rfl (by kernel_rfl) (by kernel_rfl) (by kernel_rfl) rfl (fl_move rfl) ?_
          refine WL_move rfl rfl ?_
          refine WL_nil ?_
          refine WA_one 1 (by kernel_rfl) rfl ?_
          refine WL_load_box_agg [(.int .i64 x2.1), v2] hC5 0 rfl rfl rfl Try.isAgg165 Try.sizeOf165 rfl rfl ?_
          refine WL_nil ?_
          obtain ⟨x4, hr3, hr2⟩ := bind_some hr2
          refine WA_one 2 (by kernel_rfl) rfl ?_
          refine WL_call Try.call147 rfl rfl (c_M_IsFact a1 u1 (g1.now hC5.keep) (x2.1, x2.2) v2 (h3.now hC5.keep) x4 hr3) ?_
          intro _ w6 hv1
          obtain ⟨rfl, hB5⟩ := res_bool hv1
          have hC6 := hC5.grow hB5
          refine WL_nil ?_
          refine WA_take 3 rfl (by kernel_rfl) (by kernel_rfl) (by kernel_rfl) rfl (fl_not rfl) ?_
          refine WL_not rfl rfl ?_
          refine WL_nil ?_
          refine WA_take 4 rfl (by kernel_rfl) (by kernel_rfl) (by kernel_rfl) rfl (fl_move rfl) ?_
          refine WL_move rfl rfl ?_
          refine WL_nil ?_
          refine WA_fork (fun hc2 => ?_) (fun hc2 => ?_)
          · replace hr2 := ite_t hr2 hc2
            refine WA_skip 5 rfl (by kernel_rfl) (by kernel_rfl) (by kernel_rfl) rfl rfl rfl (by simp) rfl rfl ?_
            refine WA_skip 6 rfl (by kernel_rfl) (by kernel_rfl) (by kernel_rfl) rfl rfl rfl (by simp) rfl rfl ?_
            refine WA_skip 7 rfl (by kernel_rfl) (by kernel_rfl) (by kernel_rfl) rfl rfl rfl (by simp) rfl rfl ?_
            refine WA_skip 8 rfl (by kernel_rfl) (by kernel_rfl) (by kernel_rfl) rfl rfl rfl (by simp [undef]) rfl rfl ?_
            refine WA_skip 9 rfl (by kernel_rfl) (by kernel_rfl) (by kernel_rfl) rfl rfl rfl (by simp [undef]) rfl rfl ?_
            refine WA_skip 10 rfl (by kernel_rfl) (by kernel_rfl) (by kernel_rfl) rfl rfl rfl (by simp [undef]) rfl rfl ?_
            refine WA_skip 11 rfl (by kernel_rfl) (by kernel_rfl) (by kernel_rfl) rfl rfl rfl (by simp [undef]) rfl rfl ?_
            refine WA_skip 12 rfl (by kernel_rfl) (by kernel_rfl) (by kernel_rfl) rfl rfl rfl (by simp [undef]) rfl rfl ?_
            refine WA_skip 13 rfl (by kernel_rfl) (by kernel_rfl) (by kernel_rfl) rfl rfl rfl (by simp [undef]) rfl rfl ?_
            refine WA_skip 14 rfl (by kernel_rfl) (by kernel_rfl) (by kernel_rfl) rfl rfl rfl (by simp [undef]) rfl rfl ?_
            refine WA_skip 15 rfl (by kernel_rfl) (by kernel_rfl) (by kernel_rfl) rfl rfl rfl (by simp [undef]) rfl rfl ?_
            refine WA_skip 16 rfl (by kernel_rfl) (by kernel_rfl) (by kernel_rfl) rfl rfl rfl (by simp) rfl rfl ?_
            refine WA_take 17 rfl (by kernel_rfl) (by kernel_rfl) (by kernel_rfl) rfl (fl_pick_t rfl rfl) ?_
            refine WL_pick_t rfl rfl rfl ?_
            refine WL_nil ?_
            refine WA_done (by kernel_rfl) ?_
            have hq1 := Option.some.inj hr2
            subst hq1
            have hC7 : Ctx [] w0 _ [] := hC6.headN 0
            refine nrm_sub (l' := [(0, u1), (1, u2), (7, u2), (8, (.int .i64 (List.length a2 : Int))), (9, (.int .i64 x1)), (31, (.bool true))]) ⟨rfl, rfl, rfl, rfl, rfl, rfl, trivial⟩ ?_
            exact ⟨true, rfl, rfl, ((Keep.of hB4).then hB5).below, hC7⟩
          · replace hr2 := ite_f hr2 hc2
            refine WA_takeG 5 rfl (by kernel_rfl) (by kernel_rfl) (by kernel_rfl) rfl rfl rfl (fl_move rfl) ?_
            refine WL_guard rfl rfl ?_
            refine WL_move rfl rfl ?_
            refine WL_nil ?_
            refine WA_takeG 6 rfl (by kernel_rfl) (by kernel_rfl) (by kernel_rfl) rfl rfl rfl (fl_gtr rfl rfl) ?_
            refine WL_guard rfl rfl ?_
            refine WL_gtr rfl rfl rfl ?_
            refine WL_nil ?_
            refine WA_takeG 7 rfl (by kernel_rfl) (by kernel_rfl) (by kernel_rfl) rfl rfl rfl (fl_move rfl) ?_
            refine WL_guard rfl rfl ?_
            refine WL_move rfl rfl ?_
            refine WL_nil ?_
            refine WA_fork (fun hc3 => ?_) (fun hc3 => ?_)
            · replace hr2 := ite_t hr2 hc3
              refine WA_takeG 8 rfl (by kernel_rfl) (by kernel_rfl) (by kernel_rfl) rfl rfl rfl (fl_move rfl) ?_
              refine WL_guard rfl rfl ?_
              refine WL_move rfl rfl ?_
              refine WL_nil ?_
              refine WA_takeG 9 rfl (by kernel_rfl) (by kernel_rfl) (by kernel_rfl) rfl rfl rfl (fl_move rfl) ?_
              refine WL_guard rfl rfl ?_
              refine WL_move rfl rfl ?_
              refine WL_nil ?_
              refine WA_takeG 10 rfl (by kernel_rfl) (by kernel_rfl) (by kernel_rfl) rfl rfl rfl (fl_sub rfl rfl) ?_
              refine WL_guard rfl rfl ?_
              refine WL_sub rfl rfl rfl ?_
              refine WL_nil ?_
              obtain ⟨x5, hx2, hr2⟩ := bind_some hr2
              refine WA_takeG 11 rfl (by kernel_rfl) (by kernel_rfl) (by kernel_rfl) rfl rfl rfl (fl_index Try.underlying100 ty165 g2 hx2 rfl rfl) ?_
              refine WL_guard rfl rfl ?_
              refine WL_index Try.underlying100 ty165 g2 hx2 rfl rfl rfl (fun b3 o2 h4 => ?_)
              refine WL_nil ?_
              refine WA.sub (l' := [(0, u1), (1, u2), (5, (.int .i64 x1)), (6, (ptr b2 0)), (7, u2), (8, (.int .i64 (List.length a2 : Int))), (9, (.int .i64 x1)), (10, (.bool (decide (x1 < (List.length a2 : Int))))), (11, (.int .i64 x1)), (12, (ptr b1 o1)), (13, (.agg #[(.int .i64 x2.1), v2])), (14, u1), (15, (.agg #[(.int .i64 x2.1), v2])), (16, (.bool x4)), (17, (.bool (!x4))), (18, (.bool false)), (19, (.int .i64 x1)), (20, (.bool (decide (0 < x1)))), (21, (.bool true)), (22, u2), (23, (.int .i64 x1)), (24, (.int .i64 (w64 (x1 - 1)))), (25, (ptr b3 o2))]) ?_ ⟨rfl, rfl, rfl, rfl, rfl, rfl, rfl, rfl, rfl, rfl, rfl, rfl, rfl, rfl, rfl, rfl, rfl, rfl, rfl, rfl, rfl, rfl, rfl, trivial⟩
              refine WA_postsE [⟨12, [], fun vs => PW.ro [] w0 x5, []⟩, ⟨13, [], fun vs => PW.val (.agg #[(.int .i64 x2.1), v2]), []⟩] [[], []] 4 rfl (by kernel_rfl) (by kernel_rfl) rfl ?_ ?_
              · refine StepsE_cons rfl ?_ ?_
                · intro w7 hB6
                  refine DepsE_nil ?_
                  refine ⟨_, rfl, ?_⟩
                  refine WL_guard rfl rfl ?_
                  refine WL_load ty165 h4 (hC6.keep.then hB6) rfl rfl (fun v5 h7 => ?_)
                  refine WL_nil ?_
                  exact FinE_val (Below.refl _ _) rfl rfl ⟨rfl, h7⟩
                refine StepsE_cons rfl ?_ ?_
                · intro w7 hB6
                  refine DepsE_nil ?_
                  refine ⟨_, rfl, ?_⟩
                  refine WL_guard rfl rfl ?_
                  refine WL_load_box_agg [(.int .i64 x2.1), v2] (hC6.grow hB6) 0 rfl rfl rfl Try.isAgg165 Try.sizeOf165 rfl rfl ?_
                  refine WL_nil ?_
                  exact FinE_val (Below.refl _ _) rfl rfl ⟨rfl, rfl⟩
                exact StepsE_nil
              · intro w8 hB7
                refine AllE_cons rfl rfl rfl ?_
                rintro v5 _ ⟨rfl, h7⟩
                obtain ⟨v4, rfl, h6⟩ := ro_st165 h7
                refine AllE_cons rfl rfl rfl ?_
                rintro _ _ ⟨rfl, rfl⟩
                refine AllE_nil ?_
                intro hn1 hb1
                have hC8 := hC6.grow hB7
                obtain ⟨x6, hr4, hr2⟩ := bind_some hr2
                refine WA_one 14 (by kernel_rfl) rfl ?_
                refine WL_guard rfl rfl ?_
                refine WL_call Try.call148 rfl rfl (c_M_CompareFacts x5 v4 (h6.now hC8.keep) (x2.1, x2.2) v2 (h3.now hC8.keep) x6 hr4) ?_
                intro _ w9 hv2
                obtain ⟨rfl, hB8⟩ := res_int hv2
                have hC9 := hC8.grow hB8
                refine WL_nil ?_
                refine WA_takeG 15 rfl (by kernel_rfl) (by kernel_rfl) (by kernel_rfl) rfl rfl rfl (fl_geq rfl rfl) ?_
                refine WL_guard rfl rfl ?_
                refine WL_geq rfl rfl rfl ?_
                refine WL_nil ?_
                refine WA_takeG 16 rfl (by kernel_rfl) (by kernel_rfl) (by kernel_rfl) rfl rfl rfl (fl_pick_t rfl rfl) ?_
                refine WL_guard rfl rfl ?_
                refine WL_pick_t rfl rfl rfl ?_
                refine WL_nil ?_
                refine WA_take 17 rfl (by kernel_rfl) (by kernel_rfl) (by kernel_rfl) rfl (fl_pick_f rfl rfl) ?_
                refine WL_pick_f rfl rfl rfl ?_
                refine WL_nil ?_
                refine WA_done (by kernel_rfl) ?_
                have hq2 := Option.some.inj hr2
                subst hq2
                have hC10 : Ctx [] w0 _ [] := hC9.headN 0
                refine nrm_sub (l' := [(0, u1), (1, u2), (7, u2), (8, (.int .i64 (List.length a2 : Int))), (9, (.int .i64 x1)), (31, (.bool (decide (0 ≤ x6))))]) ⟨rfl, rfl, rfl, rfl, rfl, rfl, trivial⟩ ?_
                exact ⟨(decide (0 ≤ x6)), rfl, rfl, ((((Keep.of hB4).then hB5).then hB7).then hB8).below, hC10⟩
            · replace hr2 := ite_f hr2 hc3
              refine WA_skip 8 rfl (by kernel_rfl) (by kernel_rfl) (by kernel_rfl) rfl rfl rfl (by simp) rfl rfl ?_
              refine WA_skip 9 rfl (by kernel_rfl) (by kernel_rfl) (by kernel_rfl) rfl rfl rfl (by simp) rfl rfl ?_
              refine WA_skip 10 rfl (by kernel_rfl) (by kernel_rfl) (by kernel_rfl) rfl rfl rfl (by simp) rfl rfl ?_
              refine WA_skip 11 rfl (by kernel_rfl) (by kernel_rfl) (by kernel_rfl) rfl rfl rfl (by simp) rfl rfl ?_
              refine WA_skip 12 rfl (by kernel_rfl) (by kernel_rfl) (by kernel_rfl) rfl rfl rfl (by simp) rfl rfl ?_
              refine WA_skip 13 rfl (by kernel_rfl) (by kernel_rfl) (by kernel_rfl) rfl rfl rfl (by simp) rfl rfl ?_
              refine WA_skip 14 rfl (by kernel_rfl) (by kernel_rfl) (by kernel_rfl) rfl rfl rfl (by simp) rfl rfl ?_
              refine WA_skip 15 rfl (by kernel_rfl) (by kernel_rfl) (by kernel_rfl) rfl rfl rfl (by simp) rfl rfl ?_
              refine WA_takeG 16 rfl (by kernel_rfl) (by kernel_rfl) (by kernel_rfl) rfl rfl rfl (fl_pick_f rfl rfl) ?_
              refine WL_guard rfl rfl ?_
              refine WL_pick_f rfl rfl rfl ?_
              refine WL_nil ?_
              refine WA_take 17 rfl (by kernel_rfl) (by kernel_rfl) (by kernel_rfl) rfl (fl_pick_f rfl rfl) ?_
              refine WL_pick_f rfl rfl rfl ?_
              refine WL_nil ?_
              refine WA_done (by kernel_rfl) ?_
              have hq3 := Option.some.inj hr2
              subst hq3
              have hC11 : Ctx [] w0 _ [] := hC6.headN 0
              refine nrm_sub (l' := [(0, u1), (1, u2), (7, u2), (8, (.int .i64 (List.length a2 : Int))), (9, (.int .i64 x1)), (31, (.bool false))]) ⟨rfl, rfl, rfl, rfl, rfl, rfl, trivial⟩ ?_
              exact ⟨false, rfl, rfl, ((Keep.of hB4).then hB5).below, hC11⟩
        · rintro _ w4 ⟨x3, rfl, rfl, hB3, hC4⟩
          try dsimp only at hL1
          refine W_cond rfl (fun hc4 => ?_) (fun hc4 => ?_)
          · replace hL1 := ite_t hL1 hc4
            refine W_seq_reg ?_
            refine WL_assign rfl rfl ?_
            refine WL_nil ?_
            refine W_ret ?_
            refine blk_ret ?_
            refine nrm_ret ?_
            refine nrm_ret ?_
            refine blk_ret ?_
            refine nrm_ret ?_
            refine nrm_ret ?_
            have hq4 := Option.some.inj hL1
            subst hq4
            dsimp only at hF
            have hq5 := Option.some.inj hF
            subst hq5
            refine fn_ret1 rfl rfl ?_
            exact ⟨_, rfl, bool_res hC4 _⟩
          · replace hL1 := ite_f hL1 hc4
            refine W_skip ?_
            refine blk_normal ?_
            refine nrm_normal ?_
            refine W_reg ?_
            refine WL_add rfl rfl rfl ?_
            refine WL_move rfl rfl ?_
            refine WL_nil ?_
            refine nrm_sub (l' := [(0, u1), (1, u2), (7, u2), (8, (.int .i64 (List.length a2 : Int))), (9, (.int .i64 (w64 (x1 + 1))))]) ⟨rfl, rfl, rfl, rfl, rfl, trivial⟩ ?_
            exact ⟨k1, Nat.lt_succ_self _, w64 (x1 + 1), rfl, hC4, hL1⟩
      · replace hL1 := ite_f hL1 hc1
        refine W_exit ?_
        refine nrm_exit ?_
        refine nrm_exit ?_
        refine blk_exit ?_
        have hq6 := Option.some.inj hL1
        subst hq6
        refine nrm_sub (l' := [(0, u1), (1, u2)]) ⟨rfl, rfl, trivial⟩ ?_
        exact ⟨rfl, rfl, hC1⟩
  · rintro l3 _ w10 hs3 ⟨rfl, rfl, hC12⟩
    try dsimp only at hF
    refine nrm_sub' hs3 ?_
    clear hs3
    obtain ⟨r3, hr5, hF⟩ := bind_some hF
    refine W_cut (fun l w => ∃ x7 : Bool, x7 = r3 ∧ l = [(4, (.bool x7))] ∧ Below w10.heap.size w10 w ∧ Ctx [] w0 w []) ?_ ?_
    · refine W_reg ?_
      refine WL_move rfl rfl ?_
      obtain ⟨x8, hr6, hr5⟩ := bind_some hr5
      refine WL_call Try.call149 rfl rfl (c_M_IsSchema a1 u1 (g1.now hC12.keep) x8 hr6) ?_
      intro _ w12 hv3
      obtain ⟨rfl, hB11⟩ := res_bool hv3
      have hC14 := hC12.grow hB11
      refine WL_move rfl rfl ?_
      refine WL_fork (fun hc5 => ?_) (fun hc5 => ?_)
      · replace hr5 := ite_t hr5 hc5
        refine WL_guard rfl rfl ?_
        refine WL_move rfl rfl ?_
        refine WL_guard rfl rfl ?_
        refine WL_len Try.underlying100 g2 rfl rfl ?_
        refine WL_guard rfl rfl ?_
        refine WL_leq rfl rfl rfl ?_
        refine WL_pick_t rfl rfl rfl ?_
        refine WL_assign rfl rfl ?_
        refine WL_nil ?_
        have hq7 := Option.some.inj hr5
        subst hq7
        refine nrm_sub (l' := [(4, (.bool (decide ((List.length a2 : Int) ≤ 24))))]) ⟨rfl, trivial⟩ ?_
        exact ⟨(decide ((List.length a2 : Int) ≤ 24)), rfl, rfl, (Keep.of hB11).below, hC14⟩
      · replace hr5 := ite_f hr5 hc5
        refine WL_guard_skip rfl rfl (by simp) rfl ?_
        refine WL_guard_skip rfl rfl (by simp) rfl ?_
        refine WL_guard_skip rfl rfl (by simp) rfl ?_
        refine WL_pick_f rfl rfl rfl ?_
        refine WL_assign rfl rfl ?_
        refine WL_nil ?_
        have hq8 := Option.some.inj hr5
        subst hq8
        refine nrm_sub (l' := [(4, (.bool false))]) ⟨rfl, trivial⟩ ?_
        exact ⟨false, rfl, rfl, (Keep.of hB11).below, hC14⟩
    · rintro _ w11 ⟨x7, rfl, rfl, hB10, hC13⟩
      try dsimp only at hF
      refine W_ret ?_
      have hq9 := Option.some.inj hF
      subst hq9
      refine fn_ret1 rfl rfl ?_
      exact ⟨_, rfl, bool_res hC13 _⟩

theorem c_M_isCost {w0 : World} (a1 : Int) (rr : Bool) (hF : M.isCost a1 = some rr) :
    Calls Try.prog 95 [(.int .i64 a1)].toArray w0 fun e w' => ∃ v, e = .returned v ∧ Res w0 rr v w' := by
  refine calls_of_W Try.func95 rfl rfl ?_
  have hC0 := Ctx.start w0
  unfold M.isCost at hF
  refine W_seq_reg ?_
  refine WL_assign rfl rfl ?_
  refine WL_nil ?_
  refine W_seq_reg ?_
  refine WL_move rfl rfl ?_
  obtain ⟨x1, hr1, hF⟩ := bind_some hF
  refine WL_call Try.call97 rfl rfl (c_M_within a1 0 99 x1 hr1) ?_
  intro _ w1 hv1
  obtain ⟨rfl, hB1⟩ := res_bool hv1
  have hC1 := hC0.grow hB1
  refine WL_assign rfl rfl ?_
  refine WL_nil ?_
  refine W_ret ?_
  have hq1 := Option.some.inj hF
  subst hq1
  refine fn_ret1 rfl rfl ?_
  exact ⟨_, rfl, bool_res hC1 _⟩

theorem c_M_ascending {w0 : World} (a1 : (List Int)) (u1 : Value) (g1 : RO [] w0 u1 a1) (rr : Bool) (hF : M.ascending a1 = some rr) :
    Calls Try.prog 101 [u1].toArray w0 fun e w' => ∃ v, e = .returned v ∧ Res w0 rr v w' := by
  refine calls_of_W Try.func101 rfl rfl ?_
  have hC0 := Ctx.start w0
  unfold M.ascending at hF
  refine W_seq_reg ?_
  refine WL_assign rfl rfl ?_
  refine WL_nil ?_
  refine W_seq ?_
  refine W_seq_reg ?_
  refine WL_move rfl rfl ?_
  refine WL_len Try.underlying22 g1 rfl rfl ?_
  refine WL_move rfl rfl ?_
  refine WL_nil ?_
  obtain ⟨r1, hr1, hF⟩ := bind_some hF
  refine W_norm (fun l w => .inl () = r1 ∧ l = [] ∧ Below w0.heap.size w0 w ∧ Ctx [] w0 w []) ?_ ?_
  · refine W_block ?_
    refine W.sub (l' := [(0, u1), (5, (.int .i64 (List.length a1 : Int))), (6, (.int .i64 0))]) ?_ ⟨rfl, rfl, rfl, trivial⟩
    refine W_loop (fun k l w => ∃ x1 : Int, l = [(0, u1), (5, (.int .i64 (List.length a1 : Int))), (6, (.int .i64 x1))] ∧ Below w0.heap.size w0 w ∧ Ctx [] w0 w [] ∧ M.ascending_l1 a1 k x1 = some r1) FUEL ⟨0, rfl, (Below.refl _ _), hC0, hr1⟩ ?_
    clear hr1
    rintro k1 _ w1 ⟨x1, rfl, hB1, hC1, hL1⟩
    cases k1 with
    | zero => rw [M.ascending_l1] at hL1; cases hL1
    | succ k1 =>
      rw [M.ascending_l1] at hL1
      refine W_seq_reg ?_
      refine WL_lss rfl rfl rfl ?_
      refine WL_nil ?_
      refine W_seq ?_
      refine W_cond rfl (fun hc1 => ?_) (fun hc1 => ?_)
      · replace hL1 := ite_t hL1 hc1
        refine W_skip ?_
        refine nrm_normal ?_
        refine W_seq ?_
        refine W_block ?_
        refine W_seq_reg ?_
        refine WL_move rfl rfl ?_
        refine WL_assign rfl rfl ?_
        refine WL_nil ?_
        obtain ⟨r2, hr2, hL1⟩ := bind_some hL1
        refine W_cut (fun l w => ∃ x2 : Bool, x2 = r2 ∧ l = [(0, u1), (5, (.int .i64 (List.length a1 : Int))), (6, (.int .i64 x1)), (22, (.bool x2))] ∧ Below w1.heap.size w1 w ∧ Ctx [] w0 w []) ?_ ?_
        · refine W_drawn 14 rfl hmix (fun w3 hB3 => ?_)
          have hC3 := hC1.grow hB3
          refine WA_take 0 rfl (by kernel_rfl) (by kernel_rfl) (by kernel_rfl) rfl (fl_move rfl) ?_
          refine WL_move rfl rfl ?_
          refine WL_nil ?_
          refine WA_take 1 rfl (by kernel_rfl) (by kernel_rfl) (by kernel_rfl) rfl (fl_gtr rfl rfl) ?_
          refine WL_gtr rfl rfl rfl ?_
          refine WL_nil ?_
          refine WA_take 2 rfl (by kernel_rfl) (by kernel_rfl) (by kernel_rfl) rfl (fl_move rfl) ?_
          refine WL_move rfl rfl ?_
          refine WL_nil ?_
          refine WA_fork (fun hc2 => ?_) (fun hc2 => ?_)
          · replace hr2 := ite_t hr2 hc2
            refine WA_takeG 3 rfl (by kernel_rfl) (by kernel_rfl) (by kernel_rfl) rfl rfl rfl (fl_move rfl) ?_
            refine WL_guard rfl rfl ?_
            refine WL_move rfl rfl ?_
            refine WL_nil ?_
            refine WA_takeG 4 rfl (by kernel_rfl) (by kernel_rfl) (by kernel_rfl) rfl rfl rfl (fl_move rfl) ?_
            refine WL_guard rfl rfl ?_
            refine WL_move rfl rfl ?_
            refine WL_nil ?_
            obtain ⟨x3, hx1, hr2⟩ := bind_some hr2
            refine WA_takeG 5 rfl (by kernel_rfl) (by kernel_rfl) (by kernel_rfl) rfl rfl rfl (fl_index Try.underlying22 ty3 g1 hx1 rfl rfl) ?_
            refine WL_guard rfl rfl ?_
            refine WL_index Try.underlying22 ty3 g1 hx1 rfl rfl rfl (fun b1 o1 h1 => ?_)
            refine WL_nil ?_
            refine WA_takeG 7 rfl (by kernel_rfl) (by kernel_rfl) (by kernel_rfl) rfl rfl rfl (fl_move rfl) ?_
            refine WL_guard rfl rfl ?_
            refine WL_move rfl rfl ?_
            refine WL_nil ?_
            refine WA_takeG 8 rfl (by kernel_rfl) (by kernel_rfl) (by kernel_rfl) rfl rfl rfl (fl_move rfl) ?_
            refine WL_guard rfl rfl ?_
            refine WL_move rfl rfl ?_
            refine WL_nil ?_
            refine WA_takeG 9 rfl (by kernel_rfl) (by kernel_rfl) (by kernel_rfl) rfl rfl rfl (fl_sub rfl rfl) ?_
            refine WL_guard rfl rfl ?_
            refine WL_sub rfl rfl rfl ?_
            refine WL_nil ?_
            obtain ⟨x4, hx2, hr2⟩ := bind_some hr2
            refine WA_takeG 10 rfl (by kernel_rfl) (by kernel_rfl) (by kernel_rfl) rfl rfl rfl (fl_index Try.underlying22 ty3 g1 hx2 rfl rfl) ?_
            refine WL_guard rfl rfl ?_
            refine WL_index Try.underlying22 ty3 g1 hx2 rfl rfl rfl (fun b2 o2 h2 => ?_)
            refine WL_nil ?_
            refine WA.sub (l' := [(0, u1), (3, (.int .i64 x1)), (5, (.int .i64 (List.length a1 : Int))), (6, (.int .i64 x1)), (7, (.bool (decide (x1 < (List.length a1 : Int))))), (8, (.int .i64 x1)), (9, (.int .i64 x1)), (10, (.bool (decide (0 < x1)))), (11, (.bool true)), (12, u1), (13, (.int .i64 x1)), (14, (ptr b1 o1)), (16, u1), (17, (.int .i64 x1)), (18, (.int .i64 (w64 (x1 - 1)))), (19, (ptr b2 o2))]) ?_ ⟨rfl, rfl, rfl, rfl, rfl, rfl, rfl, rfl, rfl, rfl, rfl, rfl, rfl, rfl, rfl, rfl, trivial⟩
            refine WA_postsE [⟨6, [], fun vs => PW.val (.int .i64 x3), []⟩, ⟨11, [], fun vs => PW.val (.int .i64 x4), []⟩] [[], []] 2 rfl (by kernel_rfl) (by kernel_rfl) rfl ?_ ?_
            · refine StepsE_cons rfl ?_ ?_
              · intro w4 hB4
                refine DepsE_nil ?_
                refine ⟨_, rfl, ?_⟩
                refine WL_guard rfl rfl ?_
                refine WL_load ty3 h1 (hC3.keep.then hB4) rfl rfl (fun v1 h3 => ?_)
                obtain rfl := ro_int h3
                refine WL_nil ?_
                exact FinE_val (Below.refl _ _) rfl rfl ⟨rfl, rfl⟩
              refine StepsE_cons rfl ?_ ?_
              · intro w4 hB4
                refine DepsE_nil ?_
                refine ⟨_, rfl, ?_⟩
                refine WL_guard rfl rfl ?_
                refine WL_load ty3 h2 (hC3.keep.then hB4) rfl rfl (fun v2 h4 => ?_)
                obtain rfl := ro_int h4
                refine WL_nil ?_
                exact FinE_val (Below.refl _ _) rfl rfl ⟨rfl, rfl⟩
              exact StepsE_nil
            · intro w5 hB5
              refine AllE_cons rfl rfl rfl ?_
              rintro _ _ ⟨rfl, rfl⟩
              refine AllE_cons rfl rfl rfl ?_
              rintro _ _ ⟨rfl, rfl⟩
              refine AllE_nil ?_
              intro hn1 hb1
              have hC4 := hC3.grow hB5
              refine WA_takeG 12 rfl (by kernel_rfl) (by kernel_rfl) (by kernel_rfl) rfl rfl rfl (fl_leq rfl rfl) ?_
              refine WL_guard rfl rfl ?_
              refine WL_leq rfl rfl rfl ?_
              refine WL_nil ?_
              refine WA_take 13 rfl (by kernel_rfl) (by kernel_rfl) (by kernel_rfl) rfl (fl_pick_t rfl rfl) ?_
              refine WL_pick_t rfl rfl rfl ?_
              refine WL_nil ?_
              refine WA_done (by kernel_rfl) ?_
              have hq1 := Option.some.inj hr2
              subst hq1
              refine nrm_sub (l' := [(0, u1), (5, (.int .i64 (List.length a1 : Int))), (6, (.int .i64 x1)), (22, (.bool (decide (x3 ≤ x4))))]) ⟨rfl, rfl, rfl, rfl, trivial⟩ ?_
              exact ⟨(decide (x3 ≤ x4)), rfl, rfl, ((Keep.of hB3).then hB5).below, hC4⟩
          · replace hr2 := ite_f hr2 hc2
            refine WA_skip 3 rfl (by kernel_rfl) (by kernel_rfl) (by kernel_rfl) rfl rfl rfl (by simp) rfl rfl ?_
            refine WA_skip 4 rfl (by kernel_rfl) (by kernel_rfl) (by kernel_rfl) rfl rfl rfl (by simp) rfl rfl ?_
            refine WA_skip 5 rfl (by kernel_rfl) (by kernel_rfl) (by kernel_rfl) rfl rfl rfl (by simp) rfl rfl ?_
            refine WA_skip 6 rfl (by kernel_rfl) (by kernel_rfl) (by kernel_rfl) rfl rfl rfl (by simp) rfl rfl ?_
            refine WA_skip 7 rfl (by kernel_rfl) (by kernel_rfl) (by kernel_rfl) rfl rfl rfl (by simp) rfl rfl ?_
            refine WA_skip 8 rfl (by kernel_rfl) (by kernel_rfl) (by kernel_rfl) rfl rfl rfl (by simp) rfl rfl ?_
            refine WA_skip 9 rfl (by kernel_rfl) (by kernel_rfl) (by kernel_rfl) rfl rfl rfl (by simp) rfl rfl ?_
            refine WA_skip 10 rfl (by kernel_rfl) (by kernel_rfl) (by kernel_rfl) rfl rfl rfl (by simp) rfl rfl ?_
            refine WA_skip 11 rfl (by kernel_rfl) (by kernel_rfl) (by kernel_rfl) rfl rfl rfl (by simp) rfl rfl ?_
            refine WA_skip 12 rfl (by kernel_rfl) (by kernel_rfl) (by kernel_rfl) rfl rfl rfl (by simp) rfl rfl ?_
            refine WA_take 13 rfl (by kernel_rfl) (by kernel_rfl) (by kernel_rfl) rfl (fl_pick_f rfl rfl) ?_
            refine WL_pick_f rfl rfl rfl ?_
            refine WL_nil ?_
            refine WA_done (by kernel_rfl) ?_
            have hq2 := Option.some.inj hr2
            subst hq2
            refine nrm_sub (l' := [(0, u1), (5, (.int .i64 (List.length a1 : Int))), (6, (.int .i64 x1)), (22, (.bool false))]) ⟨rfl, rfl, rfl, rfl, trivial⟩ ?_
            exact ⟨false, rfl, rfl, (Keep.of hB3).below, hC3⟩
        · rintro _ w2 ⟨x2, rfl, rfl, hB2, hC2⟩
          try dsimp only at hL1
          refine W_cond rfl (fun hc3 => ?_) (fun hc3 => ?_)
          · replace hL1 := ite_t hL1 hc3
            refine W_seq_reg ?_
            refine WL_assign rfl rfl ?_
            refine WL_nil ?_
            refine W_ret ?_
            refine blk_ret ?_
            refine nrm_ret ?_
            refine nrm_ret ?_
            refine blk_ret ?_
            refine nrm_ret ?_
            refine nrm_ret ?_
            have hq3 := Option.some.inj hL1
            subst hq3
            dsimp only at hF
            have hq4 := Option.some.inj hF
            subst hq4
            refine fn_ret1 rfl rfl ?_
            exact ⟨_, rfl, bool_res hC2 _⟩
          · replace hL1 := ite_f hL1 hc3
            refine W_skip ?_
            refine blk_normal ?_
            refine nrm_normal ?_
            refine W_reg ?_
            refine WL_add rfl rfl rfl ?_
            refine WL_move rfl rfl ?_
            refine WL_nil ?_
            refine nrm_sub (l' := [(0, u1), (5, (.int .i64 (List.length a1 : Int))), (6, (.int .i64 (w64 (x1 + 1))))]) ⟨rfl, rfl, rfl, trivial⟩ ?_
            exact ⟨k1, Nat.lt_succ_self _, w64 (x1 + 1), rfl, ((Keep.of hB1).then hB2).below, hC2, hL1⟩
      · replace hL1 := ite_f hL1 hc1
        refine W_exit ?_
        refine nrm_exit ?_
        refine nrm_exit ?_
        refine blk_exit ?_
        have hq5 := Option.some.inj hL1
        subst hq5
        refine nrm_sub (l' := []) trivial ?_
        exact ⟨rfl, rfl, (Keep.of hB1).below, hC1⟩
  · rintro l3 _ w6 hs3 ⟨rfl, rfl, hB6, hC5⟩
    try dsimp only at hF
    refine nrm_sub' hs3 ?_
    clear hs3
    refine W_seq_reg ?_
    refine WL_assign rfl rfl ?_
    refine WL_nil ?_
    refine W_ret ?_
    have hq6 := Option.some.inj hF
    subst hq6
    refine fn_ret1 rfl rfl ?_
    exact ⟨_, rfl, bool_res hC5 _⟩

theorem c_M_Method_fits_c1 {w0 : World} (a1 : Int) (pb1 : Nat) (ax1 : Int) (g1 : ROAt [] w0 pb1 0 ax1) (rr : Bool) (hF : M.Method_fits_c1 a1 ax1 = some rr) :
    Calls Try.prog 204 [(.int .i64 a1), (ptr pb1 0)].toArray w0 fun e w' => ∃ v, e = .returned v ∧ Res w0 rr v w' := by
  refine calls_of_W Try.func204 rfl rfl ?_
  have hC0 := Ctx.start w0
  unfold M.Method_fits_c1 at hF
  refine W_seq_reg ?_
  refine WL_assign rfl rfl ?_
  refine WL_nil ?_
  refine W_seq_reg ?_
  refine WL_move rfl rfl ?_
  refine WL_load ty3 g1 hC0.keep rfl rfl (fun v1 h1 => ?_)
  obtain rfl := ro_int h1
  refine WL_sub rfl rfl rfl ?_
  obtain ⟨x1, hr1, hF⟩ := bind_some hF
  refine WL_call Try.call97 rfl rfl (c_M_within a1 0 (w64 (ax1 - 1)) x1 hr1) ?_
  intro _ w1 hv1
  obtain ⟨rfl, hB1⟩ := res_bool hv1
  have hC1 := hC0.grow hB1
  refine WL_not rfl rfl ?_
  refine WL_assign rfl rfl ?_
  refine WL_nil ?_
  refine W_ret ?_
  have hq1 := Option.some.inj hF
  subst hq1
  refine fn_ret1 rfl rfl ?_
  exact ⟨_, rfl, bool_res hC1 _⟩

theorem c_Slices_IndexFunc_Lint_int_M_Method_fits_c1 {w0 : World} (a1 : (List Int)) (u1 : Value) (g1 : RO [] w0 u1 a1) (pb1 : Nat) (ax1 : Int) (g2 : ROAt [] w0 pb1 0 ax1) (rr : Int) (hF : Slices.IndexFunc_Lint_int_M_Method_fits_c1 a1 ax1 = some rr) :
    Calls Try.prog 137 [u1, (.func (.func 204) #[] #[(ptr pb1 0)])].toArray w0 fun e w' => ∃ v, e = .returned v ∧ Res w0 rr v w' := by
  refine calls_of_W Try.func137 rfl rfl ?_
  have hC0 := Ctx.start w0
  unfold Slices.IndexFunc_Lint_int_M_Method_fits_c1 at hF
  refine W_seq_reg ?_
  refine WL_assign rfl rfl ?_
  refine WL_nil ?_
  refine W_seq ?_
  refine W_seq_reg ?_
  refine WL_move rfl rfl ?_
  refine WL_len Try.underlying22 g1 rfl rfl ?_
  refine WL_move rfl rfl ?_
  refine WL_nil ?_
  obtain ⟨r1, hr1, hF⟩ := bind_some hF
  refine W_norm (fun l w => .inl () = r1 ∧ l = [] ∧ Below w0.heap.size w0 w ∧ Ctx [] w0 w []) ?_ ?_
  · refine W_block ?_
    refine W.sub (l' := [(0, u1), (1, (.func (.func 204) #[] #[(ptr pb1 0)])), (7, (.int .i64 (List.length a1 : Int))), (8, (.int .i64 0))]) ?_ ⟨rfl, rfl, rfl, rfl, trivial⟩
    refine W_loop (fun k l w => ∃ x1 : Int, l = [(0, u1), (1, (.func (.func 204) #[] #[(ptr pb1 0)])), (7, (.int .i64 (List.length a1 : Int))), (8, (.int .i64 x1))] ∧ Below w0.heap.size w0 w ∧ Ctx [] w0 w [] ∧ Slices.IndexFunc_Lint_int_M_Method_fits_c1_l1 a1 ax1 k x1 = some r1) FUEL ⟨0, rfl, (Below.refl _ _), hC0, hr1⟩ ?_
    clear hr1
    rintro k1 _ w1 ⟨x1, rfl, hB1, hC1, hL1⟩
    cases k1 with
    | zero => rw [Slices.IndexFunc_Lint_int_M_Method_fits_c1_l1] at hL1; cases hL1
    | succ k1 =>
      rw [Slices.IndexFunc_Lint_int_M_Method_fits_c1_l1] at hL1
      refine W_seq_reg ?_
      refine WL_lss rfl rfl rfl ?_
      refine WL_nil ?_
      refine W_seq ?_
      refine W_cond rfl (fun hc1 => ?_) (fun hc1 => ?_)
      · replace hL1 := ite_t hL1 hc1
        refine W_skip ?_
        refine nrm_normal ?_
        refine W_seq ?_
        refine W_block ?_
        refine W_seq_reg ?_
        refine WL_move rfl rfl ?_
        refine WL_assign rfl rfl ?_
        refine WL_nil ?_
        refine W_seq_reg ?_
        refine WL_move rfl rfl ?_
        refine WL_move rfl rfl ?_
        refine WL_move rfl rfl ?_
        obtain ⟨x2, hx1, hL1⟩ := bind_some hL1
        refine WL_index Try.underlying22 ty3 g1 hx1 rfl rfl rfl (fun b1 o1 h1 => ?_)
        refine WL_load ty3 h1 hC1.keep rfl rfl (fun v1 h2 => ?_)
        obtain rfl := ro_int h2
        obtain ⟨x3, hr2, hL1⟩ := bind_some hL1
        refine WL_callv (cap := [(ptr pb1 0)]) Try.call204 rfl rfl rfl (c_M_Method_fits_c1 x2 pb1 ax1 (g2.now hC1.keep) x3 hr2) ?_
        intro _ w2 hv1
        obtain ⟨rfl, hB2⟩ := res_bool hv1
        have hC2 := hC1.grow hB2
        refine WL_nil ?_
        refine W_cond rfl (fun hc2 => ?_) (fun hc2 => ?_)
        · replace hL1 := ite_t hL1 hc2
          refine W_seq_reg ?_
          refine WL_move rfl rfl ?_
          refine WL_assign rfl rfl ?_
          refine WL_nil ?_
          refine W_ret ?_
          refine blk_ret ?_
          refine nrm_ret ?_
          refine nrm_ret ?_
          refine blk_ret ?_
          refine nrm_ret ?_
          refine nrm_ret ?_
          have hq1 := Option.some.inj hL1
          subst hq1
          dsimp only at hF
          have hq2 := Option.some.inj hF
          subst hq2
          refine fn_ret1 rfl rfl ?_
          exact ⟨_, rfl, int_res hC2 _⟩
        · replace hL1 := ite_f hL1 hc2
          refine W_skip ?_
          refine blk_normal ?_
          refine nrm_normal ?_
          refine W_reg ?_
          refine WL_add rfl rfl rfl ?_
          refine WL_move rfl rfl ?_
          refine WL_nil ?_
          refine nrm_sub (l' := [(0, u1), (1, (.func (.func 204) #[] #[(ptr pb1 0)])), (7, (.int .i64 (List.length a1 : Int))), (8, (.int .i64 (w64 (x1 + 1))))]) ⟨rfl, rfl, rfl, rfl, trivial⟩ ?_
          exact ⟨k1, Nat.lt_succ_self _, w64 (x1 + 1), rfl, ((Keep.of hB1).then hB2).below, hC2, hL1⟩
      · replace hL1 := ite_f hL1 hc1
        refine W_exit ?_
        refine nrm_exit ?_
        refine nrm_exit ?_
        refine blk_exit ?_
        have hq3 := Option.some.inj hL1
        subst hq3
        refine nrm_sub (l' := []) trivial ?_
        exact ⟨rfl, rfl, (Keep.of hB1).below, hC1⟩
  · rintro l2 _ w3 hs2 ⟨rfl, rfl, hB3, hC3⟩
    try dsimp only at hF
    refine nrm_sub' hs2 ?_
    clear hs2
    refine W_seq_reg ?_
    refine WL_assign rfl rfl ?_
    refine WL_nil ?_
    refine W_ret ?_
    have hq4 := Option.some.inj hF
    subst hq4
    refine fn_ret1 rfl rfl ?_
    exact ⟨_, rfl, int_res hC3 _⟩

theorem c_Slices_ContainsFunc_Lint_int_M_Method_fits_c1 {w0 : World} (a1 : (List Int)) (u1 : Value) (g1 : RO [] w0 u1 a1) (pb1 : Nat) (ax1 : Int) (g2 : ROAt [] w0 pb1 0 ax1) (rr : Bool) (hF : Slices.ContainsFunc_Lint_int_M_Method_fits_c1 a1 ax1 = some rr) :
    Calls Try.prog 102 [u1, (.func (.func 204) #[] #[(ptr pb1 0)])].toArray w0 fun e w' => ∃ v, e = .returned v ∧ Res w0 rr v w' := by
  refine calls_of_W Try.func102 rfl rfl ?_
  have hC0 := Ctx.start w0
  unfold Slices.ContainsFunc_Lint_int_M_Method_fits_c1 at hF
  refine W_seq_reg ?_
  refine WL_assign rfl rfl ?_
  refine WL_nil ?_
  refine W_seq_reg ?_
  refine WL_move rfl rfl ?_
  refine WL_move rfl rfl ?_
  obtain ⟨x1, hr1, hF⟩ := bind_some hF
  refine WL_call Try.call137 rfl rfl (c_Slices_IndexFunc_Lint_int_M_Method_fits_c1 a1 u1 (g1.now hC0.keep) pb1 ax1 (g2.now hC0.keep) x1 hr1) ?_
  intro _ w1 hv1
  obtain ⟨rfl, hB1⟩ := res_int hv1
  have hC1 := hC0.grow hB1
  refine WL_geq rfl rfl rfl ?_
  refine WL_assign rfl rfl ?_
  refine WL_nil ?_
  refine W_ret ?_
  have hq1 := Option.some.inj hF
  subst hq1
  refine fn_ret1 rfl rfl ?_
  exact ⟨_, rfl, bool_res hC1 _⟩

theorem c_M_Method_fits {w0 : World} (a1 : (Int × (List Int) × Int × Int × Int)) (u1 : Value) (g1 : RO [] w0 u1 a1.2.1) (a2 : Int) (rr : Bool) (hF : M.Method_fits a1 a2 = some rr) :
    Calls Try.prog 201 [(.agg #[(.int .i64 a1.1), u1, (.int .i64 a1.2.2.1), (.int .i64 a1.2.2.2.1), (.int .i64 a1.2.2.2.2)]), (.int .i64 a2)].toArray w0 fun e w' => ∃ v, e = .returned v ∧ Res w0 rr v w' := by
  refine calls_of_W Try.func201 rfl rfl ?_
  have hC0 := Ctx.start w0
  unfold M.Method_fits at hF
  refine W_seq_reg ?_
  refine WL_box (cs := [(.int .i64 a1.1), u1, (.int .i64 a1.2.2.1), (.int .i64 a1.2.2.2.1), (.int .i64 a1.2.2.2.2)]) hC0 rfl rfl rfl (fun b1 w1 hC1 hB1 => ?_)
  refine WL_box (cs := [(.int .i64 a2)]) hC1 rfl rfl rfl (fun b2 w2 hC2 hB2 => ?_)
  refine WL_assign rfl rfl ?_
  refine WL_nil ?_
  obtain ⟨r1, hr1, hF⟩ := bind_some hF
  refine W_cut (fun l w => ∃ x1 : Bool, x1 = r1 ∧ l = [(4, (.bool x1))] ∧ Below w2.heap.size w2 w ∧ Ctx [] w0 w []) ?_ ?_
  · refine W_reg ?_
    refine WL_field Try.underlying91 rfl rfl (fun w => ⟨_, Try.sizeOf22 w⟩) rfl rfl ?_
    refine WL_load_box hC2 1 rfl rfl Try.isAgg22 rfl rfl ?_
    obtain ⟨x2, hr2, hr1⟩ := bind_some hr1
    refine WL_call Try.call101 rfl rfl (c_M_ascending a1.2.1 u1 (g1.now hC2.keep) x2 hr2) ?_
    intro _ w4 hv1
    obtain ⟨rfl, hB4⟩ := res_bool hv1
    have hC4 := hC2.grow hB4
    refine WL_move rfl rfl ?_
    refine WL_fork (fun hc1 => ?_) (fun hc1 => ?_)
    · replace hr1 := ite_t hr1 hc1
      refine WL_guard rfl rfl ?_
      refine WL_field Try.underlying91 rfl rfl (fun w => ⟨_, Try.sizeOf22 w⟩) rfl rfl ?_
      refine WL_guard rfl rfl ?_
      refine WL_load_box hC4 1 rfl rfl Try.isAgg22 rfl rfl ?_
      refine WL_guard rfl rfl ?_
      refine WL_makeFunc rfl rfl ?_
      obtain ⟨x3, hr3, hr1⟩ := bind_some hr1
      refine WL_guard rfl rfl ?_
      refine WL_call Try.call102 rfl rfl (c_Slices_ContainsFunc_Lint_int_M_Method_fits_c1 a1.2.1 u1 (g1.now hC4.keep) b2 a2 (hC4.boxAt 0 rfl repw_int) x3 hr3) ?_
      intro _ w5 hv2
      obtain ⟨rfl, hB5⟩ := res_bool hv2
      have hC5 := hC4.grow hB5
      refine WL_guard rfl rfl ?_
      refine WL_not rfl rfl ?_
      refine WL_pick_t rfl rfl rfl ?_
      refine WL_move rfl rfl ?_
      refine WL_fork (fun hc2 => ?_) (fun hc2 => ?_)
      · replace hr1 := ite_t hr1 hc2
        refine WL_guard rfl rfl ?_
        refine WL_field Try.underlying91 rfl rfl (fun w => ⟨_, Try.sizeOf3 w⟩) rfl rfl ?_
        refine WL_guard rfl rfl ?_
        refine WL_load_box hC5 1 rfl rfl Try.isAgg3 rfl rfl ?_
        obtain ⟨x4, hr4, hr1⟩ := bind_some hr1
        refine WL_guard rfl rfl ?_
        refine WL_call Try.call97 rfl rfl (c_M_within a1.2.2.1 0 9 x4 hr4) ?_
        intro _ w6 hv3
        obtain ⟨rfl, hB6⟩ := res_bool hv3
        have hC6 := hC5.grow hB6
        refine WL_pick_t rfl rfl rfl ?_
        refine WL_move rfl rfl ?_
        refine WL_fork (fun hc3 => ?_) (fun hc3 => ?_)
        · replace hr1 := ite_t hr1 hc3
          refine WL_guard rfl rfl ?_
          refine WL_field Try.underlying91 rfl rfl (fun w => ⟨_, Try.sizeOf3 w⟩) rfl rfl ?_
          refine WL_guard rfl rfl ?_
          refine WL_load_box hC6 1 rfl rfl Try.isAgg3 rfl rfl ?_
          obtain ⟨x5, hr5, hr1⟩ := bind_some hr1
          refine WL_guard rfl rfl ?_
          refine WL_call Try.call95 rfl rfl (c_M_isCost a1.2.2.2.1 x5 hr5) ?_
          intro _ w7 hv4
          obtain ⟨rfl, hB7⟩ := res_bool hv4
          have hC7 := hC6.grow hB7
          refine WL_pick_t rfl rfl rfl ?_
          refine WL_move rfl rfl ?_
          refine WL_fork (fun hc4 => ?_) (fun hc4 => ?_)
          · replace hr1 := ite_t hr1 hc4
            refine WL_guard rfl rfl ?_
            refine WL_field Try.underlying91 rfl rfl (fun w => ⟨_, Try.sizeOf3 w⟩) rfl rfl ?_
            refine WL_guard rfl rfl ?_
            refine WL_load_box hC7 1 rfl rfl Try.isAgg3 rfl rfl ?_
            obtain ⟨x6, hr6, hr1⟩ := bind_some hr1
            refine WL_guard rfl rfl ?_
            refine WL_call Try.call97 rfl rfl (c_M_within a1.2.2.2.2 1 99 x6 hr6) ?_
            intro _ w8 hv5
            obtain ⟨rfl, hB8⟩ := res_bool hv5
            have hC8 := hC7.grow hB8
            refine WL_pick_t rfl rfl rfl ?_
            refine WL_assign rfl rfl ?_
            refine WL_nil ?_
            have hq1 := Option.some.inj hr1
            subst hq1
            have hC9 : Ctx [] w0 _ [] := hC8.headN 0
            refine nrm_sub (l' := [(4, (.bool x6))]) ⟨rfl, trivial⟩ ?_
            exact ⟨x6, rfl, rfl, (((((Keep.of hB4).then hB5).then hB6).then hB7).then hB8).below, hC9⟩
          · replace hr1 := ite_f hr1 hc4
            refine WL_guard_skip rfl rfl (by simp) rfl ?_
            refine WL_guard_skip rfl rfl (by simp) rfl ?_
            refine WL_guard_skip rfl rfl (by simp) rfl ?_
            refine WL_pick_f rfl rfl rfl ?_
            refine WL_assign rfl rfl ?_
            refine WL_nil ?_
            have hq2 := Option.some.inj hr1
            subst hq2
            have hC10 : Ctx [] w0 _ [] := hC7.headN 0
            refine nrm_sub (l' := [(4, (.bool false))]) ⟨rfl, trivial⟩ ?_
            exact ⟨false, rfl, rfl, ((((Keep.of hB4).then hB5).then hB6).then hB7).below, hC10⟩
        · replace hr1 := ite_f hr1 hc3
          refine WL_guard_skip rfl rfl (by simp) rfl ?_
          refine WL_guard_skip rfl rfl (by simp) rfl ?_
          refine WL_guard_skip rfl rfl (by simp) rfl ?_
          refine WL_pick_f rfl rfl rfl ?_
          refine WL_move rfl rfl ?_
          refine WL_guard_skip rfl rfl (by simp) rfl ?_
          refine WL_guard_skip rfl rfl (by simp) rfl ?_
          refine WL_guard_skip rfl rfl (by simp) rfl ?_
          refine WL_pick_f rfl rfl rfl ?_
          refine WL_assign rfl rfl ?_
          refine WL_nil ?_
          have hq3 := Option.some.inj hr1
          subst hq3
          have hC11 : Ctx [] w0 _ [] := hC6.headN 0
          refine nrm_sub (l' := [(4, (.bool false))]) ⟨rfl, trivial⟩ ?_
          exact ⟨false, rfl, rfl, (((Keep.of hB4).then hB5).then hB6).below, hC11⟩
      · replace hr1 := ite_f hr1 hc2
        refine WL_guard_skip rfl rfl (by simp) rfl ?_
        refine WL_guard_skip rfl rfl (by simp) rfl ?_
        refine WL_guard_skip rfl rfl (by simp) rfl ?_
        refine WL_pick_f rfl rfl rfl ?_
        refine WL_move rfl rfl ?_
        refine WL_guard_skip rfl rfl (by simp) rfl ?_
        refine WL_guard_skip rfl rfl (by simp) rfl ?_
        refine WL_guard_skip rfl rfl (by simp) rfl ?_
        refine WL_pick_f rfl rfl rfl ?_
        refine WL_move rfl rfl ?_
        refine WL_guard_skip rfl rfl (by simp) rfl ?_
        refine WL_guard_skip rfl rfl (by simp) rfl ?_
        refine WL_guard_skip rfl rfl (by simp) rfl ?_
        refine WL_pick_f rfl rfl rfl ?_
        refine WL_assign rfl rfl ?_
        refine WL_nil ?_
        have hq4 := Option.some.inj hr1
        subst hq4
        have hC12 : Ctx [] w0 _ [] := hC5.headN 0
        refine nrm_sub (l' := [(4, (.bool false))]) ⟨rfl, trivial⟩ ?_
        exact ⟨false, rfl, rfl, ((Keep.of hB4).then hB5).below, hC12⟩
    · replace hr1 := ite_f hr1 hc1
      refine WL_guard_skip rfl rfl (by simp) rfl ?_
      refine WL_guard_skip rfl rfl (by simp) rfl ?_
      refine WL_guard_skip rfl rfl (by simp) rfl ?_
      refine WL_guard_skip rfl rfl (by simp) rfl ?_
      refine WL_guard_skip rfl rfl (by simp) rfl ?_
      refine WL_pick_f rfl rfl rfl ?_
      refine WL_move rfl rfl ?_
      refine WL_guard_skip rfl rfl (by simp) rfl ?_
      refine WL_guard_skip rfl rfl (by simp) rfl ?_
      refine WL_guard_skip rfl rfl (by simp) rfl ?_
      refine WL_pick_f rfl rfl rfl ?_
      refine WL_move rfl rfl ?_
      refine WL_guard_skip rfl rfl (by simp) rfl ?_
      refine WL_guard_skip rfl rfl (by simp) rfl ?_
      refine WL_guard_skip rfl rfl (by simp) rfl ?_
      refine WL_pick_f rfl rfl rfl ?_
      refine WL_move rfl rfl ?_
      refine WL_guard_skip rfl rfl (by simp) rfl ?_
      refine WL_guard_skip rfl rfl (by simp) rfl ?_
      refine WL_guard_skip rfl rfl (by simp) rfl ?_
      refine WL_pick_f rfl rfl rfl ?_
      refine WL_assign rfl rfl ?_
      refine WL_nil ?_
      have hq5 := Option.some.inj hr1
      subst hq5
      have hC13 : Ctx [] w0 _ [] := hC4.headN 0
      refine nrm_sub (l' := [(4, (.bool false))]) ⟨rfl, trivial⟩ ?_
      exact ⟨false, rfl, rfl, (Keep.of hB4).below, hC13⟩
  · rintro _ w3 ⟨x1, rfl, rfl, hB3, hC3⟩
    try dsimp only at hF
    refine W_ret ?_
    have hq6 := Option.some.inj hF
    subst hq6
    refine fn_ret1 rfl rfl ?_
    exact ⟨_, rfl, bool_res hC3 _⟩

theorem c_M_IsMethod {w0 : World} (a1 : (List Int)) (u1 : Value) (g1 : RO [] w0 u1 a1) (a2 : (Int × (List Int) × Int × Int × Int)) (u2 : Value) (g2 : RO [] w0 u2 a2.2.1) (rr : Bool) (hF : M.IsMethod a1 a2 = some rr) :
    Calls Try.prog 187 [u1, (.agg #[(.int .i64 a2.1), u2, (.int .i64 a2.2.2.1), (.int .i64 a2.2.2.2.1), (.int .i64 a2.2.2.2.2)])].toArray w0 fun e w' => ∃ v, e = .returned v ∧ Res w0 rr v w' := by
  refine calls_of_W Try.func187 rfl rfl ?_
  have hC0 := Ctx.start w0
  unfold M.IsMethod at hF
  refine W_seq_reg ?_
  refine WL_box (cs := [(.int .i64 a2.1), u2, (.int .i64 a2.2.2.1), (.int .i64 a2.2.2.2.1), (.int .i64 a2.2.2.2.2)]) hC0 rfl rfl rfl (fun b1 w1 hC1 hB1 => ?_)
  refine WL_assign rfl rfl ?_
  refine WL_nil ?_
  obtain ⟨r1, hr1, hF⟩ := bind_some hF
  refine W_cut (fun l w => ∃ x1 : Bool, x1 = r1 ∧ l = [(4, (.bool x1))] ∧ Below w1.heap.size w1 w ∧ Ctx [] w0 w []) ?_ ?_
  · refine W_drawn 14 rfl hmix (fun w3 hB3 => ?_)
    have hC3 := hC1.grow hB3
    refine WA_take 0 rfl (by kernel_rfl) (by kernel_rfl) (by kernel_rfl) rfl (fl_move rfl) ?_
    refine WL_move rfl rfl ?_
    refine WL_nil ?_
    refine WA_take 1 rfl (by kernel_rfl) (by kernel_rfl) (by kernel_rfl) rfl (fl_field Try.underlying91 rfl rfl (fun w => ⟨_, Try.sizeOf3 w⟩) rfl) ?_
    refine WL_field Try.underlying91 rfl rfl (fun w => ⟨_, Try.sizeOf3 w⟩) rfl rfl ?_
    refine WL_nil ?_
    refine WA_one 2 (by kernel_rfl) rfl ?_
    refine WL_load_box hC3 0 rfl rfl Try.isAgg3 rfl rfl ?_
    refine WL_nil ?_
    obtain ⟨x2, hr2, hr1⟩ := bind_some hr1
    refine WA_one 3 (by kernel_rfl) rfl ?_
    refine WL_call Try.call179 rfl rfl (c_M_hasRel a1 u1 (g1.now hC3.keep) a2.1 x2 hr2) ?_
    intro _ w4 hv1
    obtain ⟨rfl, hB4⟩ := res_bool hv1
    have hC4 := hC3.grow hB4
    refine WL_nil ?_
    refine WA_take 4 rfl (by kernel_rfl) (by kernel_rfl) (by kernel_rfl) rfl (fl_move rfl) ?_
    refine WL_move rfl rfl ?_
    refine WL_nil ?_
    refine WA_fork (fun hc1 => ?_) (fun hc1 => ?_)
    · replace hr1 := ite_t hr1 hc1
      refine WA_takeG 6 rfl (by kernel_rfl) (by kernel_rfl) (by kernel_rfl) rfl rfl rfl (fl_move rfl) ?_
      refine WL_guard rfl rfl ?_
      refine WL_move rfl rfl ?_
      refine WL_nil ?_
      refine WA_takeG 7 rfl (by kernel_rfl) (by kernel_rfl) (by kernel_rfl) rfl rfl rfl (fl_field Try.underlying91 rfl rfl (fun w => ⟨_, Try.sizeOf3 w⟩) rfl) ?_
      refine WL_guard rfl rfl ?_
      refine WL_field Try.underlying91 rfl rfl (fun w => ⟨_, Try.sizeOf3 w⟩) rfl rfl ?_
      refine WL_nil ?_
      obtain ⟨x3, hx1, hr1⟩ := bind_some hr1
      refine WA.sub (l' := [(0, u1), (1, (.agg #[(.int .i64 a2.1), u2, (.int .i64 a2.2.2.1), (.int .i64 a2.2.2.2.1), (.int .i64 a2.2.2.2.2)])), (3, (ptr b1 0)), (4, (.bool false)), (5, u1), (6, (ptr b1 0)), (7, (.int .i64 a2.1)), (8, (.bool x2)), (9, (.bool true)), (11, u1), (12, (ptr b1 0))]) ?_ ⟨rfl, rfl, rfl, rfl, rfl, rfl, rfl, rfl, rfl, rfl, rfl, trivial⟩
      refine WA_postsE [⟨5, [], fun vs => PW.val (.agg #[(.int .i64 a2.1), u2, (.int .i64 a2.2.2.1), (.int .i64 a2.2.2.2.1), (.int .i64 a2.2.2.2.2)]), []⟩, ⟨8, [], fun vs => PW.val (.int .i64 a2.1), []⟩, ⟨9, [], fun vs => PW.at [] w0 x3, []⟩, ⟨10, [], fun vs => PW.val (.int .i64 x3), []⟩] [[], [], [8], [9]] 3 rfl (by kernel_rfl) (by kernel_rfl) rfl ?_ ?_
      · refine StepsE_cons rfl ?_ ?_
        · intro w5 hB5
          refine DepsE_nil ?_
          refine ⟨_, rfl, ?_⟩
          refine WL_guard rfl rfl ?_
          refine WL_load_box_agg [(.int .i64 a2.1), u2, (.int .i64 a2.2.2.1), (.int .i64 a2.2.2.2.1), (.int .i64 a2.2.2.2.2)] (hC4.grow hB5) 0 rfl rfl rfl Try.isAgg91 Try.sizeOf91 rfl rfl ?_
          refine WL_nil ?_
          exact FinE_val (Below.refl _ _) rfl rfl ⟨rfl, rfl⟩
        refine StepsE_cons rfl ?_ ?_
        · intro w5 hB5
          refine DepsE_nil ?_
          refine ⟨_, rfl, ?_⟩
          refine WL_guard rfl rfl ?_
          refine WL_load_box (hC4.grow hB5) 0 rfl rfl Try.isAgg3 rfl rfl ?_
          refine WL_nil ?_
          exact FinE_val (Below.refl _ _) rfl rfl ⟨rfl, rfl⟩
        refine StepsE_cons rfl ?_ ?_
        · intro w5 hB5
          refine DepsE_cons rfl rfl rfl ?_
          rintro _ _ ⟨rfl, rfl⟩ _
          refine DepsE_nil ?_
          refine ⟨_, rfl, ?_⟩
          refine WL_guard rfl rfl ?_
          refine WL_index Try.underlying22 ty3 g1 hx1 rfl rfl rfl (fun b2 o1 h1 => ?_)
          refine WL_nil ?_
          exact FinE_val (Below.refl _ _) rfl rfl ⟨rfl, _, _, rfl, h1⟩
        refine StepsE_cons rfl ?_ ?_
        · intro w5 hB5
          refine DepsE_cons rfl rfl rfl ?_
          rintro _ _ ⟨rfl, b2, o1, rfl, h1⟩ _
          refine DepsE_nil ?_
          refine ⟨_, rfl, ?_⟩
          refine WL_guard rfl rfl ?_
          refine WL_load ty3 h1 (hC4.keep.then hB5) rfl rfl (fun v1 h2 => ?_)
          obtain rfl := ro_int h2
          refine WL_nil ?_
          exact FinE_val (Below.refl _ _) rfl rfl ⟨rfl, rfl⟩
        exact StepsE_nil
      · intro w6 hB6
        refine AllE_cons rfl rfl rfl ?_
        rintro _ _ ⟨rfl, rfl⟩
        refine AllE_cons rfl rfl rfl ?_
        rintro _ _ ⟨rfl, rfl⟩
        refine AllE_cons rfl rfl rfl ?_
        rintro _ _ ⟨rfl, b2, o1, rfl, h1⟩
        refine AllE_cons rfl rfl rfl ?_
        rintro _ _ ⟨rfl, rfl⟩
        refine AllE_nil ?_
        intro hn1 hb1
        have hC5 := hC4.grow hB6
        obtain ⟨x4, hr3, hr1⟩ := bind_some hr1
        refine WA_one 11 (by kernel_rfl) rfl ?_
        refine WL_guard rfl rfl ?_
        refine WL_call Try.call201 rfl rfl (c_M_Method_fits (a2.1, a2.2.1, a2.2.2.1, a2.2.2.2.1, a2.2.2.2.2) u2 (g2.now hC5.keep) x3 x4 hr3) ?_
        intro _ w7 hv2
        obtain ⟨rfl, hB7⟩ := res_bool hv2
        have hC6 := hC5.grow hB7
        refine WL_nil ?_
        refine WA_take 12 rfl (by kernel_rfl) (by kernel_rfl) (by kernel_rfl) rfl (fl_pick_t rfl rfl) ?_
        refine WL_pick_t rfl rfl rfl ?_
        refine WL_nil ?_
        refine WA_take 13 rfl (by kernel_rfl) (by kernel_rfl) (by kernel_rfl) rfl (fl_assign rfl) ?_
        refine WL_assign rfl rfl ?_
        refine WL_nil ?_
        refine WA_done (by kernel_rfl) ?_
        have hq1 := Option.some.inj hr1
        subst hq1
        have hC7 : Ctx [] w0 _ [] := hC6.headN 0
        refine nrm_sub (l' := [(4, (.bool x4))]) ⟨rfl, trivial⟩ ?_
        exact ⟨x4, rfl, rfl, ((((Keep.of hB3).then hB4).then hB6).then hB7).below, hC7⟩
    · replace hr1 := ite_f hr1 hc1
      refine WA_skip 5 rfl (by kernel_rfl) (by kernel_rfl) (by kernel_rfl) rfl rfl rfl (by simp) rfl rfl ?_
      refine WA_skip 6 rfl (by kernel_rfl) (by kernel_rfl) (by kernel_rfl) rfl rfl rfl (by simp) rfl rfl ?_
      refine WA_skip 7 rfl (by kernel_rfl) (by kernel_rfl) (by kernel_rfl) rfl rfl rfl (by simp) rfl rfl ?_
      refine WA_skip 8 rfl (by kernel_rfl) (by kernel_rfl) (by kernel_rfl) rfl rfl rfl (by simp) rfl rfl ?_
      refine WA_skip 9 rfl (by kernel_rfl) (by kernel_rfl) (by kernel_rfl) rfl rfl rfl (by simp) rfl rfl ?_
      refine WA_skip 10 rfl (by kernel_rfl) (by kernel_rfl) (by kernel_rfl) rfl rfl rfl (by simp) rfl rfl ?_
      refine WA_skip 11 rfl (by kernel_rfl) (by kernel_rfl) (by kernel_rfl) rfl rfl rfl (by simp) rfl rfl ?_
      refine WA_take 12 rfl (by kernel_rfl) (by kernel_rfl) (by kernel_rfl) rfl (fl_pick_f rfl rfl) ?_
      refine WL_pick_f rfl rfl rfl ?_
      refine WL_nil ?_
      refine WA_take 13 rfl (by kernel_rfl) (by kernel_rfl) (by kernel_rfl) rfl (fl_assign rfl) ?_
      refine WL_assign rfl rfl ?_
      refine WL_nil ?_
      refine WA_done (by kernel_rfl) ?_
      have hq2 := Option.some.inj hr1
      subst hq2
      have hC8 : Ctx [] w0 _ [] := hC4.headN 0
      refine nrm_sub (l' := [(4, (.bool false))]) ⟨rfl, trivial⟩ ?_
      exact ⟨false, rfl, rfl, ((Keep.of hB3).then hB4).below, hC8⟩
  · rintro _ w2 ⟨x1, rfl, rfl, hB2, hC2⟩
    try dsimp only at hF
    refine W_ret ?_
    have hq3 := Option.some.inj hF
    subst hq3
    refine fn_ret1 rfl rfl ?_
    exact ⟨_, rfl, bool_res hC2 _⟩

theorem c_M_AreMethods_c1 {w0 : World} (a1 : (Int × (List Int) × Int × Int × Int)) (u1 : Value) (g1 : RO [] w0 u1 a1.2.1) (pb1 : Nat) (ax1 : (List Int)) (g2 : ROAt [] w0 pb1 0 ax1) (rr : Bool) (hF : M.AreMethods_c1 a1 ax1 = some rr) :
    Calls Try.prog 186 [(.agg #[(.int .i64 a1.1), u1, (.int .i64 a1.2.2.1), (.int .i64 a1.2.2.2.1), (.int .i64 a1.2.2.2.2)]), (ptr pb1 0)].toArray w0 fun e w' => ∃ v, e = .returned v ∧ Res w0 rr v w' := by
  refine calls_of_W Try.func186 rfl rfl ?_
  have hC0 := Ctx.start w0
  unfold M.AreMethods_c1 at hF
  refine W_seq_reg ?_
  refine WL_box (cs := [(.int .i64 a1.1), u1, (.int .i64 a1.2.2.1), (.int .i64 a1.2.2.2.1), (.int .i64 a1.2.2.2.2)]) hC0 rfl rfl rfl (fun b1 w1 hC1 hB1 => ?_)
  refine WL_assign rfl rfl ?_
  refine WL_nil ?_
  refine W_seq_reg ?_
  refine WL_load ty22 g2 hC1.keep rfl rfl (fun v1 h1 => ?_)
  refine WL_load_box_agg [(.int .i64 a1.1), u1, (.int .i64 a1.2.2.1), (.int .i64 a1.2.2.2.1), (.int .i64 a1.2.2.2.2)] hC1 0 rfl rfl rfl Try.isAgg91 Try.sizeOf91 rfl rfl ?_
  obtain ⟨x1, hr1, hF⟩ := bind_some hF
  refine WL_call Try.call187 rfl rfl (c_M_IsMethod ax1 v1 (h1.now hC1.keep) (a1.1, a1.2.1, a1.2.2.1, a1.2.2.2.1, a1.2.2.2.2) u1 (g1.now hC1.keep) x1 hr1) ?_
  intro _ w2 hv1
  obtain ⟨rfl, hB2⟩ := res_bool hv1
  have hC2 := hC1.grow hB2
  refine WL_not rfl rfl ?_
  refine WL_assign rfl rfl ?_
  refine WL_nil ?_
  refine W_ret ?_
  have hq1 := Option.some.inj hF
  subst hq1
  refine fn_ret1 rfl rfl ?_
  exact ⟨_, rfl, bool_res hC2 _⟩

theorem c_Slices_IndexFunc_Limpl_Method_impl_Method_M_AreMethods_c1 {w0 : World} (a1 : (List (Int × (List Int) × Int × Int × Int))) (u1 : Value) (g1 : RO [] w0 u1 a1) (pb1 : Nat) (ax1 : (List Int)) (g2 : ROAt [] w0 pb1 0 ax1) (rr : Int) (hF : Slices.IndexFunc_Limpl_Method_impl_Method_M_AreMethods_c1 a1 ax1 = some rr) :
    Calls Try.prog 200 [u1, (.func (.func 186) #[] #[(ptr pb1 0)])].toArray w0 fun e w' => ∃ v, e = .returned v ∧ Res w0 rr v w' := by
  refine calls_of_W Try.func200 rfl rfl ?_
  have hC0 := Ctx.start w0
  unfold Slices.IndexFunc_Limpl_Method_impl_Method_M_AreMethods_c1 at hF
  refine W_seq_reg ?_
  refine WL_assign rfl rfl ?_
  refine WL_nil ?_
  refine W_seq ?_
  refine W_seq_reg ?_
  refine WL_move rfl rfl ?_
  refine WL_len Try.underlying77 g1 rfl rfl ?_
  refine WL_move rfl rfl ?_
  refine WL_nil ?_
  obtain ⟨r1, hr1, hF⟩ := bind_some hF
  refine W_norm (fun l w => .inl () = r1 ∧ l = [] ∧ Below w0.heap.size w0 w ∧ Ctx [] w0 w []) ?_ ?_
  · refine W_block ?_
    refine W.sub (l' := [(0, u1), (1, (.func (.func 186) #[] #[(ptr pb1 0)])), (7, (.int .i64 (List.length a1 : Int))), (8, (.int .i64 0))]) ?_ ⟨rfl, rfl, rfl, rfl, trivial⟩
    refine W_loop (fun k l w => ∃ x1 : Int, l = [(0, u1), (1, (.func (.func 186) #[] #[(ptr pb1 0)])), (7, (.int .i64 (List.length a1 : Int))), (8, (.int .i64 x1))] ∧ Below w0.heap.size w0 w ∧ Ctx [] w0 w [] ∧ Slices.IndexFunc_Limpl_Method_impl_Method_M_AreMethods_c1_l1 a1 ax1 k x1 = some r1) FUEL ⟨0, rfl, (Below.refl _ _), hC0, hr1⟩ ?_
    clear hr1
    rintro k1 _ w1 ⟨x1, rfl, hB1, hC1, hL1⟩
    cases k1 with
    | zero => rw [Slices.IndexFunc_Limpl_Method_impl_Method_M_AreMethods_c1_l1] at hL1; cases hL1
    | succ k1 =>
      rw [Slices.IndexFunc_Limpl_Method_impl_Method_M_AreMethods_c1_l1] at hL1
      refine W_seq_reg ?_
      refine WL_lss rfl rfl rfl ?_
      refine WL_nil ?_
      refine W_seq ?_
      refine W_cond rfl (fun hc1 => ?_) (fun hc1 => ?_)
      · replace hL1 := ite_t hL1 hc1
        refine W_skip ?_
        refine nrm_normal ?_
        refine W_seq ?_
        refine W_block ?_
        refine W_seq_reg ?_
        refine WL_move rfl rfl ?_
        refine WL_assign rfl rfl ?_
        refine WL_nil ?_
        refine W_seq_reg ?_
        refine WL_move rfl rfl ?_
        refine WL_move rfl rfl ?_
        refine WL_move rfl rfl ?_
        obtain ⟨x2, hx1, hL1⟩ := bind_some hL1
        refine WL_index Try.underlying77 ty91 g1 hx1 rfl rfl rfl (fun b1 o1 h1 => ?_)
        refine WL_load ty91 h1 hC1.keep rfl rfl (fun v1 h2 => ?_)
        obtain ⟨v2, rfl, h3⟩ := ro_st91 h2
        obtain ⟨x3, hr2, hL1⟩ := bind_some hL1
        refine WL_callv (cap := [(ptr pb1 0)]) Try.call186 rfl rfl rfl (c_M_AreMethods_c1 x2 v2 (h3.now hC1.keep) pb1 ax1 (g2.now hC1.keep) x3 hr2) ?_
        intro _ w2 hv1
        obtain ⟨rfl, hB2⟩ := res_bool hv1
        have hC2 := hC1.grow hB2
        refine WL_nil ?_
        refine W_cond rfl (fun hc2 => ?_) (fun hc2 => ?_)
        · replace hL1 := ite_t hL1 hc2
          refine W_seq_reg ?_
          refine WL_move rfl rfl ?_
          refine WL_assign rfl rfl ?_
          refine WL_nil ?_
          refine W_ret ?_
          refine blk_ret ?_
          refine nrm_ret ?_
          refine nrm_ret ?_
          refine blk_ret ?_
          refine nrm_ret ?_
          refine nrm_ret ?_
          have hq1 := Option.some.inj hL1
          subst hq1
          dsimp only at hF
          have hq2 := Option.some.inj hF
          subst hq2
          refine fn_ret1 rfl rfl ?_
          exact ⟨_, rfl, int_res hC2 _⟩
        · replace hL1 := ite_f hL1 hc2
          refine W_skip ?_
          refine blk_normal ?_
          refine nrm_normal ?_
          refine W_reg ?_
          refine WL_add rfl rfl rfl ?_
          refine WL_move rfl rfl ?_
          refine WL_nil ?_
          refine nrm_sub (l' := [(0, u1), (1, (.func (.func 186) #[] #[(ptr pb1 0)])), (7, (.int .i64 (List.length a1 : Int))), (8, (.int .i64 (w64 (x1 + 1))))]) ⟨rfl, rfl, rfl, rfl, trivial⟩ ?_
          exact ⟨k1, Nat.lt_succ_self _, w64 (x1 + 1), rfl, ((Keep.of hB1).then hB2).below, hC2, hL1⟩
      · replace hL1 := ite_f hL1 hc1
        refine W_exit ?_
        refine nrm_exit ?_
        refine nrm_exit ?_
        refine blk_exit ?_
        have hq3 := Option.some.inj hL1
        subst hq3
        refine nrm_sub (l' := []) trivial ?_
        exact ⟨rfl, rfl, (Keep.of hB1).below, hC1⟩
  · rintro l2 _ w3 hs2 ⟨rfl, rfl, hB3, hC3⟩
    try dsimp only at hF
    refine nrm_sub' hs2 ?_
    clear hs2
    refine W_seq_reg ?_
    refine WL_assign rfl rfl ?_
    refine WL_nil ?_
    refine W_ret ?_
    have hq4 := Option.some.inj hF
    subst hq4
    refine fn_ret1 rfl rfl ?_
    exact ⟨_, rfl, int_res hC3 _⟩

theorem c_Slices_ContainsFunc_Limpl_Method_impl_Method_M_AreMethods_c1 {w0 : World} (a1 : (List (Int × (List Int) × Int × Int × Int))) (u1 : Value) (g1 : RO [] w0 u1 a1) (pb1 : Nat) (ax1 : (List Int)) (g2 : ROAt [] w0 pb1 0 ax1) (rr : Bool) (hF : Slices.ContainsFunc_Limpl_Method_impl_Method_M_AreMethods_c1 a1 ax1 = some rr) :
    Calls Try.prog 185 [u1, (.func (.func 186) #[] #[(ptr pb1 0)])].toArray w0 fun e w' => ∃ v, e = .returned v ∧ Res w0 rr v w' := by
  refine calls_of_W Try.func185 rfl rfl ?_
  have hC0 := Ctx.start w0
  unfold Slices.ContainsFunc_Limpl_Method_impl_Method_M_AreMethods_c1 at hF
  refine W_seq_reg ?_
  refine WL_assign rfl rfl ?_
  refine WL_nil ?_
  refine W_seq_reg ?_
  refine WL_move rfl rfl ?_
  refine WL_move rfl rfl ?_
  obtain ⟨x1, hr1, hF⟩ := bind_some hF
  refine WL_call Try.call200 rfl rfl (c_Slices_IndexFunc_Limpl_Method_impl_Method_M_AreMethods_c1 a1 u1 (g1.now hC0.keep) pb1 ax1 (g2.now hC0.keep) x1 hr1) ?_
  intro _ w1 hv1
  obtain ⟨rfl, hB1⟩ := res_int hv1
  have hC1 := hC0.grow hB1
  refine WL_geq rfl rfl rfl ?_
  refine WL_assign rfl rfl ?_
  refine WL_nil ?_
  refine W_ret ?_
  have hq1 := Option.some.inj hF
  subst hq1
  refine fn_ret1 rfl rfl ?_
  exact ⟨_, rfl, bool_res hC1 _⟩

theorem c_M_AreMethods {w0 : World} (a1 : (List Int)) (u1 : Value) (g1 : RO [] w0 u1 a1) (a2 : (List (Int × (List Int) × Int × Int × Int))) (u2 : Value) (g2 : RO [] w0 u2 a2) (rr : Bool) (hF : M.AreMethods a1 a2 = some rr) :
    Calls Try.prog 151 [u1, u2].toArray w0 fun e w' => ∃ v, e = .returned v ∧ Res w0 rr v w' := by
  refine calls_of_W Try.func151 rfl rfl ?_
  have hC0 := Ctx.start w0
  unfold M.AreMethods at hF
  refine W_seq_reg ?_
  refine WL_box (cs := [u1]) hC0 (ro_cells g1) rfl rfl (fun b1 w1 hC1 hB1 => ?_)
  refine WL_assign rfl rfl ?_
  refine WL_nil ?_
  obtain ⟨r1, hr1, hF⟩ := bind_some hF
  refine W_cut (fun l w => ∃ x1 : Bool, x1 = r1 ∧ l = [(4, (.bool x1))] ∧ Below w1.heap.size w1 w ∧ Ctx [] w0 w []) ?_ ?_
  · refine W_reg ?_
    refine WL_load_box hC1 0 rfl rfl Try.isAgg22 rfl rfl ?_
    obtain ⟨x2, hr2, hr1⟩ := bind_some hr1
    refine WL_call Try.call149 rfl rfl (c_M_IsSchema a1 u1 (g1.now hC1.keep) x2 hr2) ?_
    intro _ w3 hv1
    obtain ⟨rfl, hB3⟩ := res_bool hv1
    have hC3 := hC1.grow hB3
    refine WL_move rfl rfl ?_
    refine WL_fork (fun hc1 => ?_) (fun hc1 => ?_)
    · replace hr1 := ite_t hr1 hc1
      refine WL_guard rfl rfl ?_
      refine WL_move rfl rfl ?_
      refine WL_guard rfl rfl ?_
      refine WL_len Try.underlying77 g2 rfl rfl ?_
      refine WL_guard rfl rfl ?_
      refine WL_leq rfl rfl rfl ?_
      refine WL_pick_t rfl rfl rfl ?_
      refine WL_move rfl rfl ?_
      refine WL_fork (fun hc2 => ?_) (fun hc2 => ?_)
      · replace hr1 := ite_t hr1 hc2
        refine WL_guard rfl rfl ?_
        refine WL_move rfl rfl ?_
        refine WL_guard rfl rfl ?_
        refine WL_makeFunc rfl rfl ?_
        obtain ⟨x3, hr3, hr1⟩ := bind_some hr1
        refine WL_guard rfl rfl ?_
        refine WL_call Try.call185 rfl rfl (c_Slices_ContainsFunc_Limpl_Method_impl_Method_M_AreMethods_c1 a2 u2 (g2.now hC3.keep) b1 a1 (hC3.boxAt 0 rfl (repw_slice (g1.now hC3.keep))) x3 hr3) ?_
        intro _ w4 hv2
        obtain ⟨rfl, hB4⟩ := res_bool hv2
        have hC4 := hC3.grow hB4
        refine WL_guard rfl rfl ?_
        refine WL_not rfl rfl ?_
        refine WL_pick_t rfl rfl rfl ?_
        refine WL_assign rfl rfl ?_
        refine WL_nil ?_
        have hq1 := Option.some.inj hr1
        subst hq1
        have hC5 : Ctx [] w0 _ [] := hC4.headN 0
        refine nrm_sub (l' := [(4, (.bool (!x3)))]) ⟨rfl, trivial⟩ ?_
        exact ⟨(!x3), rfl, rfl, ((Keep.of hB3).then hB4).below, hC5⟩
      · replace hr1 := ite_f hr1 hc2
        refine WL_guard_skip rfl rfl (by simp) rfl ?_
        refine WL_guard_skip rfl rfl (by simp) rfl ?_
        refine WL_guard_skip rfl rfl (by simp) rfl ?_
        refine WL_guard_skip rfl rfl (by simp) rfl ?_
        refine WL_pick_f rfl rfl rfl ?_
        refine WL_assign rfl rfl ?_
        refine WL_nil ?_
        have hq2 := Option.some.inj hr1
        subst hq2
        have hC6 : Ctx [] w0 _ [] := hC3.headN 0
        refine nrm_sub (l' := [(4, (.bool false))]) ⟨rfl, trivial⟩ ?_
        exact ⟨false, rfl, rfl, (Keep.of hB3).below, hC6⟩
    · replace hr1 := ite_f hr1 hc1
      refine WL_guard_skip rfl rfl (by simp) rfl ?_
      refine WL_guard_skip rfl rfl (by simp) rfl ?_
      refine WL_guard_skip rfl rfl (by simp) rfl ?_
      refine WL_pick_f rfl rfl rfl ?_
      refine WL_move rfl rfl ?_
      refine WL_guard_skip rfl rfl (by simp) rfl ?_
      refine WL_guard_skip rfl rfl (by simp) rfl ?_
      refine WL_guard_skip rfl rfl (by simp) rfl ?_
      refine WL_guard_skip rfl rfl (by simp) rfl ?_
      refine WL_pick_f rfl rfl rfl ?_
      refine WL_assign rfl rfl ?_
      refine WL_nil ?_
      have hq3 := Option.some.inj hr1
      subst hq3
      have hC7 : Ctx [] w0 _ [] := hC3.headN 0
      refine nrm_sub (l' := [(4, (.bool false))]) ⟨rfl, trivial⟩ ?_
      exact ⟨false, rfl, rfl, (Keep.of hB3).below, hC7⟩
  · rintro _ w2 ⟨x1, rfl, rfl, hB2, hC2⟩
    try dsimp only at hF
    refine W_ret ?_
    have hq4 := Option.some.inj hF
    subst hq4
    refine fn_ret1 rfl rfl ?_
    exact ⟨_, rfl, bool_res hC2 _⟩

theorem c_M_IsAccess {w0 : World} (a1 : (List Int)) (u1 : Value) (g1 : RO [] w0 u1 a1) (a2 : (List (Int × (List Int) × Int × Int × Int))) (u2 : Value) (g2 : RO [] w0 u2 a2) (a3 : (Int × (List Int))) (u3 : Value) (g3 : RO [] w0 u3 a3.2) (rr : Bool) (hF : M.IsAccess a1 a2 a3 = some rr) :
    Calls Try.prog 122 [u1, u2, (.agg #[(.int .i64 a3.1), u3])].toArray w0 fun e w' => ∃ v, e = .returned v ∧ Res w0 rr v w' := by
  refine calls_of_W Try.func122 rfl rfl ?_
  have hC0 := Ctx.start w0
  unfold M.IsAccess at hF
  refine W_seq_reg ?_
  refine WL_box (cs := [(.int .i64 a3.1), u3]) hC0 rfl rfl rfl (fun b1 w1 hC1 hB1 => ?_)
  refine WL_assign rfl rfl ?_
  refine WL_nil ?_
  obtain ⟨r1, hr1, hF⟩ := bind_some hF
  refine W_cut (fun l w => ∃ x1 : Bool, x1 = r1 ∧ l = [(6, (.bool x1))] ∧ Below w1.heap.size w1 w ∧ Ctx [] w0 w []) ?_ ?_
  · refine W_drawn 30 rfl hmix (fun w3 hB3 => ?_)
    have hC3 := hC1.grow hB3
    refine WA_take 0 rfl (by kernel_rfl) (by kernel_rfl) (by kernel_rfl) rfl (fl_move rfl) ?_
    refine WL_move rfl rfl ?_
    refine WL_nil ?_
    refine WA_take 1 rfl (by kernel_rfl) (by kernel_rfl) (by kernel_rfl) rfl (fl_move rfl) ?_
    refine WL_move rfl rfl ?_
    refine WL_nil ?_
    obtain ⟨x2, hr2, hr1⟩ := bind_some hr1
    refine WA_one 2 (by kernel_rfl) rfl ?_
    refine WL_call Try.call151 rfl rfl (c_M_AreMethods a1 u1 (g1.now hC3.keep) a2 u2 (g2.now hC3.keep) x2 hr2) ?_
    intro _ w4 hv1
    obtain ⟨rfl, hB4⟩ := res_bool hv1
    have hC4 := hC3.grow hB4
    refine WL_nil ?_
    refine WA_take 3 rfl (by kernel_rfl) (by kernel_rfl) (by kernel_rfl) rfl (fl_move rfl) ?_
    refine WL_move rfl rfl ?_
    refine WL_nil ?_
    refine WA_fork (fun hc1 => ?_) (fun hc1 => ?_)
    · replace hr1 := ite_t hr1 hc1
      refine WA_takeG 4 rfl (by kernel_rfl) (by kernel_rfl) (by kernel_rfl) rfl rfl rfl (fl_field Try.underlying89 rfl rfl (fun w => ⟨_, Try.sizeOf3 w⟩) rfl) ?_
      refine WL_guard rfl rfl ?_
      refine WL_field Try.underlying89 rfl rfl (fun w => ⟨_, Try.sizeOf3 w⟩) rfl rfl ?_
      refine WL_nil ?_
      refine WA_takeG 6 rfl (by kernel_rfl) (by kernel_rfl) (by kernel_rfl) rfl rfl rfl (fl_move rfl) ?_
      refine WL_guard rfl rfl ?_
      refine WL_move rfl rfl ?_
      refine WL_nil ?_
      refine WA_takeG 7 rfl (by kernel_rfl) (by kernel_rfl) (by kernel_rfl) rfl rfl rfl (fl_len Try.underlying77 g2 rfl) ?_
      refine WL_guard rfl rfl ?_
      refine WL_len Try.underlying77 g2 rfl rfl ?_
      refine WL_nil ?_
      refine WA_takeG 8 rfl (by kernel_rfl) (by kernel_rfl) (by kernel_rfl) rfl rfl rfl (fl_sub rfl rfl) ?_
      refine WL_guard rfl rfl ?_
      refine WL_sub rfl rfl rfl ?_
      refine WL_nil ?_
      refine WA_one 5 (by kernel_rfl) rfl ?_
      refine WL_guard rfl rfl ?_
      refine WL_load_box hC4 0 rfl rfl Try.isAgg3 rfl rfl ?_
      refine WL_nil ?_
      obtain ⟨x3, hr3, hr1⟩ := bind_some hr1
      refine WA_one 9 (by kernel_rfl) rfl ?_
      refine WL_guard rfl rfl ?_
      refine WL_call Try.call97 rfl rfl (c_M_within a3.1 0 (w64 ((List.length a2 : Int) - 1)) x3 hr3) ?_
      intro _ w5 hv2
      obtain ⟨rfl, hB5⟩ := res_bool hv2
      have hC5 := hC4.grow hB5
      refine WL_nil ?_
      refine WA_take 10 rfl (by kernel_rfl) (by kernel_rfl) (by kernel_rfl) rfl (fl_pick_t rfl rfl) ?_
      refine WL_pick_t rfl rfl rfl ?_
      refine WL_nil ?_
      refine WA_take 11 rfl (by kernel_rfl) (by kernel_rfl) (by kernel_rfl) rfl (fl_move rfl) ?_
      refine WL_move rfl rfl ?_
      refine WL_nil ?_
      refine WA_fork (fun hc2 => ?_) (fun hc2 => ?_)
      · replace hr1 := ite_t hr1 hc2
        refine WA_takeG 12 rfl (by kernel_rfl) (by kernel_rfl) (by kernel_rfl) rfl rfl rfl (fl_field Try.underlying89 rfl rfl (fun w => ⟨_, Try.sizeOf22 w⟩) rfl) ?_
        refine WL_guard rfl rfl ?_
        refine WL_field Try.underlying89 rfl rfl (fun w => ⟨_, Try.sizeOf22 w⟩) rfl rfl ?_
        refine WL_nil ?_
        refine WA_takeG 15 rfl (by kernel_rfl) (by kernel_rfl) (by kernel_rfl) rfl rfl rfl (fl_move rfl) ?_
        refine WL_guard rfl rfl ?_
        refine WL_move rfl rfl ?_
        refine WL_nil ?_
        refine WA_takeG 16 rfl (by kernel_rfl) (by kernel_rfl) (by kernel_rfl) rfl rfl rfl (fl_field Try.underlying89 rfl rfl (fun w => ⟨_, Try.sizeOf3 w⟩) rfl) ?_
        refine WL_guard rfl rfl ?_
        refine WL_field Try.underlying89 rfl rfl (fun w => ⟨_, Try.sizeOf3 w⟩) rfl rfl ?_
        refine WL_nil ?_
        obtain ⟨x4, hx1, hr1⟩ := bind_some hr1
        refine WA.sub (l' := [(0, u1), (1, u2), (2, (.agg #[(.int .i64 a3.1), u3])), (5, (ptr b1 0)), (6, (.bool false)), (7, u1), (8, u2), (9, (.bool x2)), (10, (.bool true)), (11, (ptr b1 0)), (12, (.int .i64 a3.1)), (13, u2), (14, (.int .i64 (List.length a2 : Int))), (15, (.int .i64 (w64 ((List.length a2 : Int) - 1)))), (16, (.bool x3)), (17, (.bool x3)), (18, (.bool true)), (19, (ptr b1 1)), (22, u2), (23, (ptr b1 0))]) ?_ ⟨rfl, rfl, rfl, rfl, rfl, rfl, rfl, rfl, rfl, rfl, rfl, rfl, rfl, rfl, rfl, rfl, rfl, rfl, rfl, rfl, trivial⟩
        refine WA_postsE [⟨13, [], fun vs => PW.val u3, []⟩, ⟨14, [], fun vs => PW.val (.int .i64 (List.length a3.2 : Int)), []⟩, ⟨17, [], fun vs => PW.val (.int .i64 a3.1), []⟩, ⟨18, [], fun vs => PW.at [] w0 x4, []⟩, ⟨19, [], fun vs => PW.at [] w0 x4.2.1, []⟩, ⟨20, [], fun vs => PW.ro [] w0 x4.2.1, []⟩, ⟨21, [], fun vs => PW.val (.int .i64 (List.length x4.2.1 : Int)), []⟩] [[], [13], [], [17], [18], [19], [20]] 8 rfl (by kernel_rfl) (by kernel_rfl) rfl ?_ ?_
        · refine StepsE_cons rfl ?_ ?_
          · intro w6 hB6
            refine DepsE_nil ?_
            refine ⟨_, rfl, ?_⟩
            refine WL_guard rfl rfl ?_
            refine WL_load_box (hC5.grow hB6) 0 rfl rfl Try.isAgg22 rfl rfl ?_
            refine WL_nil ?_
            exact FinE_val (Below.refl _ _) rfl rfl ⟨rfl, rfl⟩
          refine StepsE_cons rfl ?_ ?_
          · intro w6 hB6
            refine DepsE_cons rfl rfl rfl ?_
            rintro _ _ ⟨rfl, rfl⟩ _
            refine DepsE_nil ?_
            refine ⟨_, rfl, ?_⟩
            refine WL_guard rfl rfl ?_
            refine WL_len Try.underlying22 g3 rfl rfl ?_
            refine WL_nil ?_
            exact FinE_val (Below.refl _ _) rfl rfl ⟨rfl, rfl⟩
          refine StepsE_cons rfl ?_ ?_
          · intro w6 hB6
            refine DepsE_nil ?_
            refine ⟨_, rfl, ?_⟩
            refine WL_guard rfl rfl ?_
            refine WL_load_box (hC5.grow hB6) 0 rfl rfl Try.isAgg3 rfl rfl ?_
            refine WL_nil ?_
            exact FinE_val (Below.refl _ _) rfl rfl ⟨rfl, rfl⟩
          refine StepsE_cons rfl ?_ ?_
          · intro w6 hB6
            refine DepsE_cons rfl rfl rfl ?_
            rintro _ _ ⟨rfl, rfl⟩ _
            refine DepsE_nil ?_
            refine ⟨_, rfl, ?_⟩
            refine WL_guard rfl rfl ?_
            refine WL_index Try.underlying77 ty91 g2 hx1 rfl rfl rfl (fun b2 o1 h1 => ?_)
            refine WL_nil ?_
            exact FinE_val (Below.refl _ _) rfl rfl ⟨rfl, _, _, rfl, h1⟩
          refine StepsE_cons rfl ?_ ?_
          · intro w6 hB6
            refine DepsE_cons rfl rfl rfl ?_
            rintro _ _ ⟨rfl, b2, o1, rfl, h1⟩ _
            refine DepsE_nil ?_
            refine ⟨_, rfl, ?_⟩
            refine WL_guard rfl rfl ?_
            refine WL_field Try.underlying91 rfl rfl (fun w => ⟨_, Try.sizeOf22 w⟩) rfl rfl ?_
            refine WL_nil ?_
            exact FinE_val (Below.refl _ _) rfl rfl ⟨rfl, _, _, rfl, h1.snd.fst⟩
          refine StepsE_cons rfl ?_ ?_
          · intro w6 hB6
            refine DepsE_cons rfl rfl rfl ?_
            rintro _ _ ⟨rfl, b3, o2, rfl, h2⟩ _
            refine DepsE_nil ?_
            refine ⟨_, rfl, ?_⟩
            refine WL_guard rfl rfl ?_
            refine WL_load ty22 h2 (hC5.keep.then hB6) rfl rfl (fun v1 h3 => ?_)
            refine WL_nil ?_
            exact FinE_val (Below.refl _ _) rfl rfl ⟨rfl, h3⟩
          refine StepsE_cons rfl ?_ ?_
          · intro w6 hB6
            refine DepsE_cons rfl rfl rfl ?_
            rintro v1 _ ⟨rfl, h3⟩ _
            refine DepsE_nil ?_
            refine ⟨_, rfl, ?_⟩
            refine WL_guard rfl rfl ?_
            refine WL_len Try.underlying22 h3 rfl rfl ?_
            refine WL_nil ?_
            exact FinE_val (Below.refl _ _) rfl rfl ⟨rfl, rfl⟩
          exact StepsE_nil
        · intro w7 hB7
          refine AllE_cons rfl rfl rfl ?_
          rintro _ _ ⟨rfl, rfl⟩
          refine AllE_cons rfl rfl rfl ?_
          rintro _ _ ⟨rfl, rfl⟩
          refine AllE_cons rfl rfl rfl ?_
          rintro _ _ ⟨rfl, rfl⟩
          refine AllE_cons rfl rfl rfl ?_
          rintro _ _ ⟨rfl, b2, o1, rfl, h1⟩
          refine AllE_cons rfl rfl rfl ?_
          rintro _ _ ⟨rfl, b3, o2, rfl, h2⟩
          refine AllE_cons rfl rfl rfl ?_
          rintro v1 _ ⟨rfl, h3⟩
          refine AllE_cons rfl rfl rfl ?_
          rintro _ _ ⟨rfl, rfl⟩
          refine AllE_nil ?_
          intro hn1 hb1
          have hC6 := hC5.grow hB7
          refine WA_takeG 22 rfl (by kernel_rfl) (by kernel_rfl) (by kernel_rfl) rfl rfl rfl (fl_eql rfl rfl) ?_
          refine WL_guard rfl rfl ?_
          refine WL_eql rfl rfl rfl ?_
          refine WL_nil ?_
          refine WA_take 23 rfl (by kernel_rfl) (by kernel_rfl) (by kernel_rfl) rfl (fl_pick_t rfl rfl) ?_
          refine WL_pick_t rfl rfl rfl ?_
          refine WL_nil ?_
          refine WA_take 24 rfl (by kernel_rfl) (by kernel_rfl) (by kernel_rfl) rfl (fl_move rfl) ?_
          refine WL_move rfl rfl ?_
          refine WL_nil ?_
          refine WA_fork (fun hc3 => ?_) (fun hc3 => ?_)
          · replace hr1 := ite_t hr1 hc3
            refine WA_takeG 25 rfl (by kernel_rfl) (by kernel_rfl) (by kernel_rfl) rfl rfl rfl (fl_field Try.underlying89 rfl rfl (fun w => ⟨_, Try.sizeOf22 w⟩) rfl) ?_
            refine WL_guard rfl rfl ?_
            refine WL_field Try.underlying89 rfl rfl (fun w => ⟨_, Try.sizeOf22 w⟩) rfl rfl ?_
            refine WL_nil ?_
            refine WA_one 26 (by kernel_rfl) rfl ?_
            refine WL_guard rfl rfl ?_
            refine WL_load_box hC6 0 rfl rfl Try.isAgg22 rfl rfl ?_
            refine WL_nil ?_
            obtain ⟨x5, hr4, hr1⟩ := bind_some hr1
            refine WA_one 27 (by kernel_rfl) rfl ?_
            refine WL_guard rfl rfl ?_
            refine WL_call Try.call152 rfl rfl (c_M_areValues a3.2 u3 (g3.now hC6.keep) x5 hr4) ?_
            intro _ w8 hv3
            obtain ⟨rfl, hB8⟩ := res_bool hv3
            have hC7 := hC6.grow hB8
            refine WL_nil ?_
            refine WA_take 28 rfl (by kernel_rfl) (by kernel_rfl) (by kernel_rfl) rfl (fl_pick_t rfl rfl) ?_
            refine WL_pick_t rfl rfl rfl ?_
            refine WL_nil ?_
            refine WA_take 29 rfl (by kernel_rfl) (by kernel_rfl) (by kernel_rfl) rfl (fl_assign rfl) ?_
            refine WL_assign rfl rfl ?_
            refine WL_nil ?_
            refine WA_done (by kernel_rfl) ?_
            have hq1 := Option.some.inj hr1
            subst hq1
            have hC8 : Ctx [] w0 _ [] := hC7.headN 0
            refine nrm_sub (l' := [(6, (.bool x5))]) ⟨rfl, trivial⟩ ?_
            exact ⟨x5, rfl, rfl, (((((Keep.of hB3).then hB4).then hB5).then hB7).then hB8).below, hC8⟩
          · replace hr1 := ite_f hr1 hc3
            refine WA_skip 25 rfl (by kernel_rfl) (by kernel_rfl) (by kernel_rfl) rfl rfl rfl (by simp) rfl rfl ?_
            refine WA_skip 26 rfl (by kernel_rfl) (by kernel_rfl) (by kernel_rfl) rfl rfl rfl (by simp) rfl rfl ?_
            refine WA_skip 27 rfl (by kernel_rfl) (by kernel_rfl) (by kernel_rfl) rfl rfl rfl (by simp) rfl rfl ?_
            refine WA_take 28 rfl (by kernel_rfl) (by kernel_rfl) (by kernel_rfl) rfl (fl_pick_f rfl rfl) ?_
            refine WL_pick_f rfl rfl rfl ?_
            refine WL_nil ?_
            refine WA_take 29 rfl (by kernel_rfl) (by kernel_rfl) (by kernel_rfl) rfl (fl_assign rfl) ?_
            refine WL_assign rfl rfl ?_
            refine WL_nil ?_
            refine WA_done (by kernel_rfl) ?_
            have hq2 := Option.some.inj hr1
            subst hq2
            have hC9 : Ctx [] w0 _ [] := hC6.headN 0
            refine nrm_sub (l' := [(6, (.bool false))]) ⟨rfl, trivial⟩ ?_
            exact ⟨false, rfl, rfl, ((((Keep.of hB3).then hB4).then hB5).then hB7).below, hC9⟩
      · replace hr1 := ite_f hr1 hc2
        refine WA_skip 12 rfl (by kernel_rfl) (by kernel_rfl) (by kernel_rfl) rfl rfl rfl (by simp) rfl rfl ?_
        refine WA_skip 13 rfl (by kernel_rfl) (by kernel_rfl) (by kernel_rfl) rfl rfl rfl (by simp) rfl rfl ?_
        refine WA_skip 14 rfl (by kernel_rfl) (by kernel_rfl) (by kernel_rfl) rfl rfl rfl (by simp) rfl rfl ?_
        refine WA_skip 15 rfl (by kernel_rfl) (by kernel_rfl) (by kernel_rfl) rfl rfl rfl (by simp) rfl rfl ?_
        refine WA_skip 16 rfl (by kernel_rfl) (by kernel_rfl) (by kernel_rfl) rfl rfl rfl (by simp) rfl rfl ?_
        refine WA_skip 17 rfl (by kernel_rfl) (by kernel_rfl) (by kernel_rfl) rfl rfl rfl (by simp) rfl rfl ?_
        refine WA_skip 18 rfl (by kernel_rfl) (by kernel_rfl) (by kernel_rfl) rfl rfl rfl (by simp) rfl rfl ?_
        refine WA_skip 19 rfl (by kernel_rfl) (by kernel_rfl) (by kernel_rfl) rfl rfl rfl (by simp) rfl rfl ?_
        refine WA_skip 20 rfl (by kernel_rfl) (by kernel_rfl) (by kernel_rfl) rfl rfl rfl (by simp) rfl rfl ?_
        refine WA_skip 21 rfl (by kernel_rfl) (by kernel_rfl) (by kernel_rfl) rfl rfl rfl (by simp) rfl rfl ?_
        refine WA_skip 22 rfl (by kernel_rfl) (by kernel_rfl) (by kernel_rfl) rfl rfl rfl (by simp) rfl rfl ?_
        refine WA_take 23 rfl (by kernel_rfl) (by kernel_rfl) (by kernel_rfl) rfl (fl_pick_f rfl rfl) ?_
        refine WL_pick_f rfl rfl rfl ?_
        refine WL_nil ?_
        refine WA_take 24 rfl (by kernel_rfl) (by kernel_rfl) (by kernel_rfl) rfl (fl_move rfl) ?_
        refine WL_move rfl rfl ?_
        refine WL_nil ?_
        refine WA_skip 25 rfl (by kernel_rfl) (by kernel_rfl) (by kernel_rfl) rfl rfl rfl (by simp) rfl rfl ?_
        refine WA_skip 26 rfl (by kernel_rfl) (by kernel_rfl) (by kernel_rfl) rfl rfl rfl (by simp) rfl rfl ?_
        refine WA_skip 27 rfl (by kernel_rfl) (by kernel_rfl) (by kernel_rfl) rfl rfl rfl (by simp) rfl rfl ?_
        refine WA_take 28 rfl (by kernel_rfl) (by kernel_rfl) (by kernel_rfl) rfl (fl_pick_f rfl rfl) ?_
        refine WL_pick_f rfl rfl rfl ?_
        refine WL_nil ?_
        refine WA_take 29 rfl (by kernel_rfl) (by kernel_rfl) (by kernel_rfl) rfl (fl_assign rfl) ?_
        refine WL_assign rfl rfl ?_
        refine WL_nil ?_
        refine WA_done (by kernel_rfl) ?_
        have hq3 := Option.some.inj hr1
        subst hq3
        have hC10 : Ctx [] w0 _ [] := hC5.headN 0
        refine nrm_sub (l' := [(6, (.bool false))]) ⟨rfl, trivial⟩ ?_
        exact ⟨false, rfl, rfl, (((Keep.of hB3).then hB4).then hB5).below, hC10⟩
    · replace hr1 := ite_f hr1 hc1
      refine WA_skip 4 rfl (by kernel_rfl) (by kernel_rfl) (by kernel_rfl) rfl rfl rfl (by simp) rfl rfl ?_
      refine WA_skip 5 rfl (by kernel_rfl) (by kernel_rfl) (by kernel_rfl) rfl rfl rfl (by simp) rfl rfl ?_
      refine WA_skip 6 rfl (by kernel_rfl) (by kernel_rfl) (by kernel_rfl) rfl rfl rfl (by simp) rfl rfl ?_
      refine WA_skip 7 rfl (by kernel_rfl) (by kernel_rfl) (by kernel_rfl) rfl rfl rfl (by simp) rfl rfl ?_
      refine WA_skip 8 rfl (by kernel_rfl) (by kernel_rfl) (by kernel_rfl) rfl rfl rfl (by simp) rfl rfl ?_
      refine WA_skip 9 rfl (by kernel_rfl) (by kernel_rfl) (by kernel_rfl) rfl rfl rfl (by simp) rfl rfl ?_
      refine WA_take 10 rfl (by kernel_rfl) (by kernel_rfl) (by kernel_rfl) rfl (fl_pick_f rfl rfl) ?_
      refine WL_pick_f rfl rfl rfl ?_
      refine WL_nil ?_
      refine WA_take 11 rfl (by kernel_rfl) (by kernel_rfl) (by kernel_rfl) rfl (fl_move rfl) ?_
      refine WL_move rfl rfl ?_
      refine WL_nil ?_
      refine WA_skip 12 rfl (by kernel_rfl) (by kernel_rfl) (by kernel_rfl) rfl rfl rfl (by simp) rfl rfl ?_
      refine WA_skip 13 rfl (by kernel_rfl) (by kernel_rfl) (by kernel_rfl) rfl rfl rfl (by simp) rfl rfl ?_
      refine WA_skip 14 rfl (by kernel_rfl) (by kernel_rfl) (by kernel_rfl) rfl rfl rfl (by simp) rfl rfl ?_
      refine WA_skip 15 rfl (by kernel_rfl) (by kernel_rfl) (by kernel_rfl) rfl rfl rfl (by simp) rfl rfl ?_
      refine WA_skip 16 rfl (by kernel_rfl) (by kernel_rfl) (by kernel_rfl) rfl rfl rfl (by simp) rfl rfl ?_
      refine WA_skip 17 rfl (by kernel_rfl) (by kernel_rfl) (by kernel_rfl) rfl rfl rfl (by simp) rfl rfl ?_
      refine WA_skip 18 rfl (by kernel_rfl) (by kernel_rfl) (by kernel_rfl) rfl rfl rfl (by simp) rfl rfl ?_
      refine WA_skip 19 rfl (by kernel_rfl) (by kernel_rfl) (by kernel_rfl) rfl rfl rfl (by simp) rfl rfl ?_
      refine WA_skip 20 rfl (by kernel_rfl) (by kernel_rfl) (by kernel_rfl) rfl rfl rfl (by simp) rfl rfl ?_
      refine WA_skip 21 rfl (by kernel_rfl) (by kernel_rfl) (by kernel_rfl) rfl rfl rfl (by simp) rfl rfl ?_
      refine WA_skip 22 rfl (by kernel_rfl) (by kernel_rfl) (by kernel_rfl) rfl rfl rfl (by simp) rfl rfl ?_
      refine WA_take 23 rfl (by kernel_rfl) (by kernel_rfl) (by kernel_rfl) rfl (fl_pick_f rfl rfl) ?_
      refine WL_pick_f rfl rfl rfl ?_
      refine WL_nil ?_
      refine WA_take 24 rfl (by kernel_rfl) (by kernel_rfl) (by kernel_rfl) rfl (fl_move rfl) ?_
      refine WL_move rfl rfl ?_
      refine WL_nil ?_
      refine WA_skip 25 rfl (by kernel_rfl) (by kernel_rfl) (by kernel_rfl) rfl rfl rfl (by simp) rfl rfl ?_
      refine WA_skip 26 rfl (by kernel_rfl) (by kernel_rfl) (by kernel_rfl) rfl rfl rfl (by simp) rfl rfl ?_
      refine WA_skip 27 rfl (by kernel_rfl) (by kernel_rfl) (by kernel_rfl) rfl rfl rfl (by simp) rfl rfl ?_
      refine WA_take 28 rfl (by kernel_rfl) (by kernel_rfl) (by kernel_rfl) rfl (fl_pick_f rfl rfl) ?_
      refine WL_pick_f rfl rfl rfl ?_
      refine WL_nil ?_
      refine WA_take 29 rfl (by kernel_rfl) (by kernel_rfl) (by kernel_rfl) rfl (fl_assign rfl) ?_
      refine WL_assign rfl rfl ?_
      refine WL_nil ?_
      refine WA_done (by kernel_rfl) ?_
      have hq4 := Option.some.inj hr1
      subst hq4
      have hC11 : Ctx [] w0 _ [] := hC4.headN 0
      refine nrm_sub (l' := [(6, (.bool false))]) ⟨rfl, trivial⟩ ?_
      exact ⟨false, rfl, rfl, ((Keep.of hB3).then hB4).below, hC11⟩
  · rintro _ w2 ⟨x1, rfl, rfl, hB2, hC2⟩
    try dsimp only at hF
    refine W_ret ?_
    have hq5 := Option.some.inj hF
    subst hq5
    refine fn_ret1 rfl rfl ?_
    exact ⟨_, rfl, bool_res hC2 _⟩

theorem c_M_IsTold {w0 : World} (a1 : (List Int)) (u1 : Value) (g1 : RO [] w0 u1 a1) (a2 : (List (Int × (List Int) × Int × Int × Int))) (u2 : Value) (g2 : RO [] w0 u2 a2) (a3 : ((Int × (List Int)) × (List (Int × (List Int))))) (u3 : Value) (g3 : RO [] w0 u3 a3.1.2) (u4 : Value) (g4 : RO [] w0 u4 a3.2) (rr : Bool) (hF : M.IsTold a1 a2 a3 = some rr) :
    Calls Try.prog 72 [u1, u2, (.agg #[(.int .i64 a3.1.1), u3, u4])].toArray w0 fun e w' => ∃ v, e = .returned v ∧ Res w0 rr v w' := by
  refine calls_of_W Try.func72 rfl rfl ?_
  have hC0 := Ctx.start w0
  unfold M.IsTold at hF
  refine W_seq_reg ?_
  refine WL_box (cs := [(.int .i64 a3.1.1), u3, u4]) hC0 rfl rfl rfl (fun b1 w1 hC1 hB1 => ?_)
  refine WL_assign rfl rfl ?_
  refine WL_nil ?_
  obtain ⟨r1, hr1, hF⟩ := bind_some hF
  refine W_cut (fun l w => ∃ x1 : Bool, x1 = r1 ∧ l = [(6, (.bool x1))] ∧ Below w1.heap.size w1 w ∧ Ctx [] w0 w []) ?_ ?_
  · refine W_reg ?_
    refine WL_move rfl rfl ?_
    refine WL_move rfl rfl ?_
    refine WL_field Try.underlying112 rfl rfl (fun w => ⟨_, Try.sizeOf89 w⟩) rfl rfl ?_
    refine WL_load_box_agg [(.int .i64 a3.1.1), u3] hC1 0 rfl rfl rfl Try.isAgg89 Try.sizeOf89 rfl rfl ?_
    obtain ⟨x2, hr2, hr1⟩ := bind_some hr1
    refine WL_call Try.call122 rfl rfl (c_M_IsAccess a1 u1 (g1.now hC1.keep) a2 u2 (g2.now hC1.keep) (a3.1.1, a3.1.2) u3 (g3.now hC1.keep) x2 hr2) ?_
    intro _ w3 hv1
    obtain ⟨rfl, hB3⟩ := res_bool hv1
    have hC3 := hC1.grow hB3
    refine WL_move rfl rfl ?_
    refine WL_fork (fun hc1 => ?_) (fun hc1 => ?_)
    · replace hr1 := ite_t hr1 hc1
      refine WL_guard rfl rfl ?_
      refine WL_move rfl rfl ?_
      refine WL_guard rfl rfl ?_
      refine WL_field Try.underlying112 rfl rfl (fun w => ⟨_, Try.sizeOf100 w⟩) rfl rfl ?_
      refine WL_guard rfl rfl ?_
      refine WL_load_box hC3 0 rfl rfl Try.isAgg100 rfl rfl ?_
      obtain ⟨x3, hr3, hr1⟩ := bind_some hr1
      refine WL_guard rfl rfl ?_
      refine WL_call Try.call120 rfl rfl (c_M_AreFacts a1 u1 (g1.now hC3.keep) a3.2 u4 (g4.now hC3.keep) x3 hr3) ?_
      intro _ w4 hv2
      obtain ⟨rfl, hB4⟩ := res_bool hv2
      have hC4 := hC3.grow hB4
      refine WL_pick_t rfl rfl rfl ?_
      refine WL_assign rfl rfl ?_
      refine WL_nil ?_
      have hq1 := Option.some.inj hr1
      subst hq1
      have hC5 : Ctx [] w0 _ [] := hC4.headN 0
      refine nrm_sub (l' := [(6, (.bool x3))]) ⟨rfl, trivial⟩ ?_
      exact ⟨x3, rfl, rfl, ((Keep.of hB3).then hB4).below, hC5⟩
    · replace hr1 := ite_f hr1 hc1
      refine WL_guard_skip rfl rfl (by simp) rfl ?_
      refine WL_guard_skip rfl rfl (by simp) rfl ?_
      refine WL_guard_skip rfl rfl (by simp) rfl ?_
      refine WL_guard_skip rfl rfl (by simp) rfl ?_
      refine WL_pick_f rfl rfl rfl ?_
      refine WL_assign rfl rfl ?_
      refine WL_nil ?_
      have hq2 := Option.some.inj hr1
      subst hq2
      have hC6 : Ctx [] w0 _ [] := hC3.headN 0
      refine nrm_sub (l' := [(6, (.bool false))]) ⟨rfl, trivial⟩ ?_
      exact ⟨false, rfl, rfl, (Keep.of hB3).below, hC6⟩
  · rintro _ w2 ⟨x1, rfl, rfl, hB2, hC2⟩
    try dsimp only at hF
    refine W_ret ?_
    have hq3 := Option.some.inj hF
    subst hq3
    refine fn_ret1 rfl rfl ?_
    exact ⟨_, rfl, bool_res hC2 _⟩

theorem c_Q_eqFact {w0 : World} (a1 : (Int × (List Int))) (u1 : Value) (g1 : RO [] w0 u1 a1.2) (a2 : (Int × (List Int))) (u2 : Value) (g2 : RO [] w0 u2 a2.2) (rr : Bool) (hF : Q.eqFact a1 a2 = some rr) :
    Calls Try.prog 132 [(.agg #[(.int .i64 a1.1), u1]), (.agg #[(.int .i64 a2.1), u2])].toArray w0 fun e w' => ∃ v, e = .returned v ∧ Res w0 rr v w' := by
  refine calls_of_W Try.func132 rfl rfl ?_
  have hC0 := Ctx.start w0
  unfold Q.eqFact at hF
  refine W_seq_reg ?_
  refine WL_box (cs := [(.int .i64 a1.1), u1]) hC0 rfl rfl rfl (fun b1 w1 hC1 hB1 => ?_)
  refine WL_box (cs := [(.int .i64 a2.1), u2]) hC1 rfl rfl rfl (fun b2 w2 hC2 hB2 => ?_)
  refine WL_assign rfl rfl ?_
  refine WL_nil ?_
  refine W_seq ?_
  refine W_seq_reg ?_
  refine WL_field Try.underlying165 rfl rfl (fun w => ⟨_, Try.sizeOf3 w⟩) rfl rfl ?_
  refine WL_load_box hC2 1 rfl rfl Try.isAgg3 rfl rfl ?_
  refine WL_field Try.underlying165 rfl rfl (fun w => ⟨_, Try.sizeOf3 w⟩) rfl rfl ?_
  refine WL_load_box hC2 0 rfl rfl Try.isAgg3 rfl rfl ?_
  refine WL_neq rfl rfl rfl ?_
  refine WL_nil ?_
  refine W_cond rfl (fun hc1 => ?_) (fun hc1 => ?_)
  · replace hF := ite_t hF hc1
    refine W_seq_reg ?_
    refine WL_assign rfl rfl ?_
    refine WL_nil ?_
    refine W_ret ?_
    refine nrm_ret ?_
    have hq1 := Option.some.inj hF
    subst hq1
    refine fn_ret1 rfl rfl ?_
    exact ⟨_, rfl, bool_res hC2 _⟩
  · replace hF := ite_f hF hc1
    refine W_skip ?_
    refine nrm_normal ?_
    refine W_seq ?_
    refine W_seq_reg ?_
    refine WL_field Try.underlying165 rfl rfl (fun w => ⟨_, Try.sizeOf22 w⟩) rfl rfl ?_
    refine WL_load_box hC2 1 rfl rfl Try.isAgg22 rfl rfl ?_
    refine WL_field Try.underlying165 rfl rfl (fun w => ⟨_, Try.sizeOf22 w⟩) rfl rfl ?_
    refine WL_load_box hC2 0 rfl rfl Try.isAgg22 rfl rfl ?_
    obtain ⟨x1, hr1, hF⟩ := bind_some hF
    refine WL_call Try.call39 rfl rfl (c_Q_eqIntS a1.2 u1 (g1.now hC2.keep) a2.2 u2 (g2.now hC2.keep) x1 hr1) ?_
    intro _ w3 hv1
    obtain ⟨rfl, hB3⟩ := res_bool hv1
    have hC3 := hC2.grow hB3
    refine WL_not rfl rfl ?_
    refine WL_nil ?_
    refine W_cond rfl (fun hc2 => ?_) (fun hc2 => ?_)
    · replace hF := ite_t hF hc2
      refine W_seq_reg ?_
      refine WL_assign rfl rfl ?_
      refine WL_nil ?_
      refine W_ret ?_
      refine nrm_ret ?_
      have hq2 := Option.some.inj hF
      subst hq2
      refine fn_ret1 rfl rfl ?_
      exact ⟨_, rfl, bool_res hC3 _⟩
    · replace hF := ite_f hF hc2
      refine W_skip ?_
      refine nrm_normal ?_
      refine W_seq_reg ?_
      refine WL_assign rfl rfl ?_
      refine WL_nil ?_
      refine W_ret ?_
      have hq3 := Option.some.inj hF
      subst hq3
      refine fn_ret1 rfl rfl ?_
      exact ⟨_, rfl, bool_res hC3 _⟩

theorem c_Q_eqFactS {w0 : World} (a1 : (List (Int × (List Int)))) (u1 : Value) (g1 : RO [] w0 u1 a1) (a2 : (List (Int × (List Int)))) (u2 : Value) (g2 : RO [] w0 u2 a2) (rr : Bool) (hF : Q.eqFactS a1 a2 = some rr) :
    Calls Try.prog 85 [u1, u2].toArray w0 fun e w' => ∃ v, e = .returned v ∧ Res w0 rr v w' := by
  refine calls_of_W Try.func85 rfl rfl ?_
  have hC0 := Ctx.start w0
  unfold Q.eqFactS at hF
  refine W_seq_reg ?_
  refine WL_assign rfl rfl ?_
  refine WL_nil ?_
  refine W_seq ?_
  refine W_seq_reg ?_
  refine WL_move rfl rfl ?_
  refine WL_len Try.underlying100 g1 rfl rfl ?_
  refine WL_move rfl rfl ?_
  refine WL_len Try.underlying100 g2 rfl rfl ?_
  refine WL_neq rfl rfl rfl ?_
  refine WL_nil ?_
  refine W_cond rfl (fun hc1 => ?_) (fun hc1 => ?_)
  · replace hF := ite_t hF hc1
    refine W_seq_reg ?_
    refine WL_assign rfl rfl ?_
    refine WL_nil ?_
    refine W_ret ?_
    refine nrm_ret ?_
    have hq1 := Option.some.inj hF
    subst hq1
    refine fn_ret1 rfl rfl ?_
    exact ⟨_, rfl, bool_res hC0 _⟩
  · replace hF := ite_f hF hc1
    refine W_skip ?_
    refine nrm_normal ?_
    refine W_seq ?_
    refine W_seq_reg ?_
    refine WL_assign rfl rfl ?_
    refine WL_nil ?_
    obtain ⟨r1, hr1, hF⟩ := bind_some hF
    refine W_norm (fun l w => .inl () = r1 ∧ l = [] ∧ Below w0.heap.size w0 w ∧ Ctx [] w0 w []) ?_ ?_
    · refine W_block ?_
      refine W.sub (l' := [(0, u1), (1, u2), (5, (.int .i64 0))]) ?_ ⟨rfl, rfl, rfl, trivial⟩
      refine W_loop (fun k l w => ∃ x1 : Int, l = [(0, u1), (1, u2), (5, (.int .i64 x1))] ∧ Below w0.heap.size w0 w ∧ Ctx [] w0 w [] ∧ Q.eqFactS_l1 a1 a2 k x1 = some r1) FUEL ⟨0, rfl, (Below.refl _ _), hC0, hr1⟩ ?_
      clear hr1
      rintro k1 _ w1 ⟨x1, rfl, hB1, hC1, hL1⟩
      cases k1 with
      | zero => rw [Q.eqFactS_l1] at hL1; cases hL1
      | succ k1 =>
        rw [Q.eqFactS_l1] at hL1
        refine W_seq ?_
        refine W_seq_reg ?_
        refine WL_move rfl rfl ?_
        refine WL_move rfl rfl ?_
        refine WL_len Try.underlying100 g1 rfl rfl ?_
        refine WL_lss rfl rfl rfl ?_
        refine WL_nil ?_
        refine W_cond rfl (fun hc2 => ?_) (fun hc2 => ?_)
        · replace hL1 := ite_t hL1 hc2
          refine W_skip ?_
          refine nrm_normal ?_
          refine W_seq ?_
          refine W_block ?_
          refine W_seq ?_
          refine W_drawn 10 rfl hmix (fun w2 hB2 => ?_)
          have hC2 := hC1.grow hB2
          refine WA_take 0 rfl (by kernel_rfl) (by kernel_rfl) (by kernel_rfl) rfl (fl_move rfl) ?_
          refine WL_move rfl rfl ?_
          refine WL_nil ?_
          refine WA_take 1 rfl (by kernel_rfl) (by kernel_rfl) (by kernel_rfl) rfl (fl_move rfl) ?_
          refine WL_move rfl rfl ?_
          refine WL_nil ?_
          obtain ⟨x2, hx1, hL1⟩ := bind_some hL1
          refine WA_take 2 rfl (by kernel_rfl) (by kernel_rfl) (by kernel_rfl) rfl (fl_index Try.underlying100 ty165 g1 hx1 rfl rfl) ?_
          refine WL_index Try.underlying100 ty165 g1 hx1 rfl rfl rfl (fun b1 o1 h1 => ?_)
          refine WL_nil ?_
          refine WA_take 4 rfl (by kernel_rfl) (by kernel_rfl) (by kernel_rfl) rfl (fl_move rfl) ?_
          refine WL_move rfl rfl ?_
          refine WL_nil ?_
          refine WA_take 5 rfl (by kernel_rfl) (by kernel_rfl) (by kernel_rfl) rfl (fl_move rfl) ?_
          refine WL_move rfl rfl ?_
          refine WL_nil ?_
          obtain ⟨x3, hx2, hL1⟩ := bind_some hL1
          refine WA_take 6 rfl (by kernel_rfl) (by kernel_rfl) (by kernel_rfl) rfl (fl_index Try.underlying100 ty165 g2 hx2 rfl rfl) ?_
          refine WL_index Try.underlying100 ty165 g2 hx2 rfl rfl rfl (fun b2 o2 h2 => ?_)
          refine WL_nil ?_
          refine WA.sub (l' := [(0, u1), (1, u2), (5, (.int .i64 x1)), (11, (.int .i64 x1)), (12, u1), (13, (.int .i64 (List.length a1 : Int))), (14, (.bool (decide (x1 < (List.length a1 : Int))))), (17, u1), (18, (.int .i64 x1)), (19, (ptr b1 o1)), (21, u2), (22, (.int .i64 x1)), (23, (ptr b2 o2))]) ?_ ⟨rfl, rfl, rfl, rfl, rfl, rfl, rfl, rfl, rfl, rfl, rfl, rfl, rfl, trivial⟩
          refine WA_postsE [⟨3, [], fun vs => PW.ro [] w0 x2, []⟩, ⟨7, [], fun vs => PW.ro [] w0 x3, []⟩] [[], []] 2 rfl (by kernel_rfl) (by kernel_rfl) rfl ?_ ?_
          · refine StepsE_cons rfl ?_ ?_
            · intro w3 hB3
              refine DepsE_nil ?_
              refine ⟨_, rfl, ?_⟩
              refine WL_load ty165 h1 (hC2.keep.then hB3) rfl rfl (fun v3 h5 => ?_)
              refine WL_nil ?_
              exact FinE_val (Below.refl _ _) rfl rfl ⟨rfl, h5⟩
            refine StepsE_cons rfl ?_ ?_
            · intro w3 hB3
              refine DepsE_nil ?_
              refine ⟨_, rfl, ?_⟩
              refine WL_load ty165 h2 (hC2.keep.then hB3) rfl rfl (fun v6 h8 => ?_)
              refine WL_nil ?_
              exact FinE_val (Below.refl _ _) rfl rfl ⟨rfl, h8⟩
            exact StepsE_nil
          · intro w4 hB4
            refine AllE_cons rfl rfl rfl ?_
            rintro v3 _ ⟨rfl, h5⟩
            obtain ⟨v2, rfl, h4⟩ := ro_st165 h5
            refine AllE_cons rfl rfl rfl ?_
            rintro v6 _ ⟨rfl, h8⟩
            obtain ⟨v5, rfl, h7⟩ := ro_st165 h8
            refine AllE_nil ?_
            intro hn1 hb1
            have hC3 := hC2.grow hB4
            obtain ⟨x4, hr2, hL1⟩ := bind_some hL1
            refine WA_one 8 (by kernel_rfl) rfl ?_
            refine WL_call Try.call132 rfl rfl (c_Q_eqFact x2 v2 (h4.now hC3.keep) x3 v5 (h7.now hC3.keep) x4 hr2) ?_
            intro _ w5 hv1
            obtain ⟨rfl, hB5⟩ := res_bool hv1
            have hC4 := hC3.grow hB5
            refine WL_nil ?_
            refine WA_take 9 rfl (by kernel_rfl) (by kernel_rfl) (by kernel_rfl) rfl (fl_not rfl) ?_
            refine WL_not rfl rfl ?_
            refine WL_nil ?_
            refine WA_done (by kernel_rfl) ?_
            refine nrm_normal ?_
            refine W_cond rfl (fun hc3 => ?_) (fun hc3 => ?_)
            · replace hL1 := ite_t hL1 hc3
              refine W_seq_reg ?_
              refine WL_assign rfl rfl ?_
              refine WL_nil ?_
              refine W_ret ?_
              refine blk_ret ?_
              refine nrm_ret ?_
              refine nrm_ret ?_
              refine blk_ret ?_
              refine nrm_ret ?_
              refine nrm_ret ?_
              have hq2 := Option.some.inj hL1
              subst hq2
              dsimp only at hF
              have hq3 := Option.some.inj hF
              subst hq3
              refine fn_ret1 rfl rfl ?_
              exact ⟨_, rfl, bool_res hC4 _⟩
            · replace hL1 := ite_f hL1 hc3
              refine W_skip ?_
              refine blk_normal ?_
              refine nrm_normal ?_
              refine W_reg ?_
              refine WL_move rfl rfl ?_
              refine WL_add rfl rfl rfl ?_
              refine WL_assign rfl rfl ?_
              refine WL_nil ?_
              refine nrm_sub (l' := [(0, u1), (1, u2), (5, (.int .i64 (w64 (x1 + 1))))]) ⟨rfl, rfl, rfl, trivial⟩ ?_
              exact ⟨k1, Nat.lt_succ_self _, w64 (x1 + 1), rfl, ((((Keep.of hB1).then hB2).then hB4).then hB5).below, hC4, hL1⟩
        · replace hL1 := ite_f hL1 hc2
          refine W_exit ?_
          refine nrm_exit ?_
          refine nrm_exit ?_
          refine blk_exit ?_
          have hq4 := Option.some.inj hL1
          subst hq4
          refine nrm_sub (l' := []) trivial ?_
          exact ⟨rfl, rfl, (Keep.of hB1).below, hC1⟩
    · rintro l2 _ w6 hs2 ⟨rfl, rfl, hB6, hC5⟩
      try dsimp only at hF
      refine nrm_sub' hs2 ?_
      clear hs2
      refine W_seq_reg ?_
      refine WL_assign rfl rfl ?_
      refine WL_nil ?_
      refine W_ret ?_
      have hq5 := Option.some.inj hF
      subst hq5
      refine fn_ret1 rfl rfl ?_
      exact ⟨_, rfl, bool_res hC5 _⟩

theorem c_Q_eqAccess {w0 : World} (a1 : (Int × (List Int))) (u1 : Value) (g1 : RO [] w0 u1 a1.2) (a2 : (Int × (List Int))) (u2 : Value) (g2 : RO [] w0 u2 a2.2) (rr : Bool) (hF : Q.eqAccess a1 a2 = some rr) :
    Calls Try.prog 115 [(.agg #[(.int .i64 a1.1), u1]), (.agg #[(.int .i64 a2.1), u2])].toArray w0 fun e w' => ∃ v, e = .returned v ∧ Res w0 rr v w' := by
  refine calls_of_W Try.func115 rfl rfl ?_
  have hC0 := Ctx.start w0
  unfold Q.eqAccess at hF
  refine W_seq_reg ?_
  refine WL_box (cs := [(.int .i64 a1.1), u1]) hC0 rfl rfl rfl (fun b1 w1 hC1 hB1 => ?_)
  refine WL_box (cs := [(.int .i64 a2.1), u2]) hC1 rfl rfl rfl (fun b2 w2 hC2 hB2 => ?_)
  refine WL_assign rfl rfl ?_
  refine WL_nil ?_
  refine W_seq ?_
  refine W_seq_reg ?_
  refine WL_field Try.underlying89 rfl rfl (fun w => ⟨_, Try.sizeOf3 w⟩) rfl rfl ?_
  refine WL_load_box hC2 1 rfl rfl Try.isAgg3 rfl rfl ?_
  refine WL_field Try.underlying89 rfl rfl (fun w => ⟨_, Try.sizeOf3 w⟩) rfl rfl ?_
  refine WL_load_box hC2 0 rfl rfl Try.isAgg3 rfl rfl ?_
  refine WL_neq rfl rfl rfl ?_
  refine WL_nil ?_
  refine W_cond rfl (fun hc1 => ?_) (fun hc1 => ?_)
  · replace hF := ite_t hF hc1
    refine W_seq_reg ?_
    refine WL_assign rfl rfl ?_
    refine WL_nil ?_
    refine W_ret ?_
    refine nrm_ret ?_
    have hq1 := Option.some.inj hF
    subst hq1
    refine fn_ret1 rfl rfl ?_
    exact ⟨_, rfl, bool_res hC2 _⟩
  · replace hF := ite_f hF hc1
    refine W_skip ?_
    refine nrm_normal ?_
    refine W_seq ?_
    refine W_seq_reg ?_
    refine WL_field Try.underlying89 rfl rfl (fun w => ⟨_, Try.sizeOf22 w⟩) rfl rfl ?_
    refine WL_load_box hC2 1 rfl rfl Try.isAgg22 rfl rfl ?_
    refine WL_field Try.underlying89 rfl rfl (fun w => ⟨_, Try.sizeOf22 w⟩) rfl rfl ?_
    refine WL_load_box hC2 0 rfl rfl Try.isAgg22 rfl rfl ?_
    obtain ⟨x1, hr1, hF⟩ := bind_some hF
    refine WL_call Try.call39 rfl rfl (c_Q_eqIntS a1.2 u1 (g1.now hC2.keep) a2.2 u2 (g2.now hC2.keep) x1 hr1) ?_
    intro _ w3 hv1
    obtain ⟨rfl, hB3⟩ := res_bool hv1
    have hC3 := hC2.grow hB3
    refine WL_not rfl rfl ?_
    refine WL_nil ?_
    refine W_cond rfl (fun hc2 => ?_) (fun hc2 => ?_)
    · replace hF := ite_t hF hc2
      refine W_seq_reg ?_
      refine WL_assign rfl rfl ?_
      refine WL_nil ?_
      refine W_ret ?_
      refine nrm_ret ?_
      have hq2 := Option.some.inj hF
      subst hq2
      refine fn_ret1 rfl rfl ?_
      exact ⟨_, rfl, bool_res hC3 _⟩
    · replace hF := ite_f hF hc2
      refine W_skip ?_
      refine nrm_normal ?_
      refine W_seq_reg ?_
      refine WL_assign rfl rfl ?_
      refine WL_nil ?_
      refine W_ret ?_
      have hq3 := Option.some.inj hF
      subst hq3
      refine fn_ret1 rfl rfl ?_
      exact ⟨_, rfl, bool_res hC3 _⟩

theorem c_Q_eqTold {w0 : World} (a1 : ((Int × (List Int)) × (List (Int × (List Int))))) (u1 : Value) (g1 : RO [] w0 u1 a1.1.2) (u2 : Value) (g2 : RO [] w0 u2 a1.2) (a2 : ((Int × (List Int)) × (List (Int × (List Int))))) (u3 : Value) (g3 : RO [] w0 u3 a2.1.2) (u4 : Value) (g4 : RO [] w0 u4 a2.2) (rr : Bool) (hF : Q.eqTold a1 a2 = some rr) :
    Calls Try.prog 73 [(.agg #[(.int .i64 a1.1.1), u1, u2]), (.agg #[(.int .i64 a2.1.1), u3, u4])].toArray w0 fun e w' => ∃ v, e = .returned v ∧ Res w0 rr v w' := by
  refine calls_of_W Try.func73 rfl rfl ?_
  have hC0 := Ctx.start w0
  unfold Q.eqTold at hF
  refine W_seq_reg ?_
  refine WL_box (cs := [(.int .i64 a1.1.1), u1, u2]) hC0 rfl rfl rfl (fun b1 w1 hC1 hB1 => ?_)
  refine WL_box (cs := [(.int .i64 a2.1.1), u3, u4]) hC1 rfl rfl rfl (fun b2 w2 hC2 hB2 => ?_)
  refine WL_assign rfl rfl ?_
  refine WL_nil ?_
  refine W_seq ?_
  refine W_seq_reg ?_
  refine WL_field Try.underlying112 rfl rfl (fun w => ⟨_, Try.sizeOf89 w⟩) rfl rfl ?_
  refine WL_load_box_agg [(.int .i64 a1.1.1), u1] hC2 1 rfl rfl rfl Try.isAgg89 Try.sizeOf89 rfl rfl ?_
  refine WL_field Try.underlying112 rfl rfl (fun w => ⟨_, Try.sizeOf89 w⟩) rfl rfl ?_
  refine WL_load_box_agg [(.int .i64 a2.1.1), u3] hC2 0 rfl rfl rfl Try.isAgg89 Try.sizeOf89 rfl rfl ?_
  obtain ⟨x1, hr1, hF⟩ := bind_some hF
  refine WL_call Try.call115 rfl rfl (c_Q_eqAccess (a1.1.1, a1.1.2) u1 (g1.now hC2.keep) (a2.1.1, a2.1.2) u3 (g3.now hC2.keep) x1 hr1) ?_
  intro _ w3 hv1
  obtain ⟨rfl, hB3⟩ := res_bool hv1
  have hC3 := hC2.grow hB3
  refine WL_not rfl rfl ?_
  refine WL_nil ?_
  refine W_cond rfl (fun hc1 => ?_) (fun hc1 => ?_)
  · replace hF := ite_t hF hc1
    refine W_seq_reg ?_
    refine WL_assign rfl rfl ?_
    refine WL_nil ?_
    refine W_ret ?_
    refine nrm_ret ?_
    have hq1 := Option.some.inj hF
    subst hq1
    refine fn_ret1 rfl rfl ?_
    exact ⟨_, rfl, bool_res hC3 _⟩
  · replace hF := ite_f hF hc1
    refine W_skip ?_
    refine nrm_normal ?_
    refine W_seq ?_
    refine W_seq_reg ?_
    refine WL_field Try.underlying112 rfl rfl (fun w => ⟨_, Try.sizeOf100 w⟩) rfl rfl ?_
    refine WL_load_box hC3 1 rfl rfl Try.isAgg100 rfl rfl ?_
    refine WL_field Try.underlying112 rfl rfl (fun w => ⟨_, Try.sizeOf100 w⟩) rfl rfl ?_
    refine WL_load_box hC3 0 rfl rfl Try.isAgg100 rfl rfl ?_
    obtain ⟨x2, hr2, hF⟩ := bind_some hF
    refine WL_call Try.call85 rfl rfl (c_Q_eqFactS a1.2 u2 (g2.now hC3.keep) a2.2 u4 (g4.now hC3.keep) x2 hr2) ?_
    intro _ w4 hv2
    obtain ⟨rfl, hB4⟩ := res_bool hv2
    have hC4 := hC3.grow hB4
    refine WL_not rfl rfl ?_
    refine WL_nil ?_
    refine W_cond rfl (fun hc2 => ?_) (fun hc2 => ?_)
    · replace hF := ite_t hF hc2
      refine W_seq_reg ?_
      refine WL_assign rfl rfl ?_
      refine WL_nil ?_
      refine W_ret ?_
      refine nrm_ret ?_
      have hq2 := Option.some.inj hF
      subst hq2
      refine fn_ret1 rfl rfl ?_
      exact ⟨_, rfl, bool_res hC4 _⟩
    · replace hF := ite_f hF hc2
      refine W_skip ?_
      refine nrm_normal ?_
      refine W_seq_reg ?_
      refine WL_assign rfl rfl ?_
      refine WL_nil ?_
      refine W_ret ?_
      have hq3 := Option.some.inj hF
      subst hq3
      refine fn_ret1 rfl rfl ?_
      exact ⟨_, rfl, bool_res hC4 _⟩

theorem c_Q_FnExactIsTold {w0 : World} (a1 : (List Int)) (u1 : Value) (g1 : RO [] w0 u1 a1) (a2 : (List (Int × (List Int) × Int × Int × Int))) (u2 : Value) (g2 : RO [] w0 u2 a2) (a3 : ((Int × (List Int)) × (List (Int × (List Int))))) (u3 : Value) (g3 : RO [] w0 u3 a3.1.2) (u4 : Value) (g4 : RO [] w0 u4 a3.2) (rr : Bool) (hF : Q.FnExactIsTold a1 a2 a3 = some rr) :
    Calls Try.prog 12 [u1, u2, (.agg #[(.int .i64 a3.1.1), u3, u4])].toArray w0 fun e w' => ∃ v, e = .returned v ∧ Res w0 rr v w' := by
  refine calls_of_W Try.func12 rfl rfl ?_
  have hC0 := Ctx.start w0
  unfold Q.FnExactIsTold at hF
  refine W_seq_reg ?_
  refine WL_box (cs := [(.int .i64 a3.1.1), u3, u4]) hC0 rfl rfl rfl (fun b1 w1 hC1 hB1 => ?_)
  refine WL_assign rfl rfl ?_
  refine WL_nil ?_
  refine W_seq ?_
  refine W_seq_reg ?_
  refine WL_move rfl rfl ?_
  refine WL_len Try.underlying22 g1 rfl rfl ?_
  refine WL_gtr rfl rfl rfl ?_
  refine WL_nil ?_
  refine W_cond rfl (fun hc1 => ?_) (fun hc1 => ?_)
  · replace hF := ite_t hF hc1
    refine W_seq_reg ?_
    refine WL_assign rfl rfl ?_
    refine WL_nil ?_
    refine W_ret ?_
    refine nrm_ret ?_
    have hq1 := Option.some.inj hF
    subst hq1
    refine fn_ret1 rfl rfl ?_
    exact ⟨_, rfl, bool_res hC1 _⟩
  · replace hF := ite_f hF hc1
    refine W_skip ?_
    refine nrm_normal ?_
    refine W_seq_reg ?_
    refine WL_assign rfl rfl ?_
    refine WL_nil ?_
    refine W_seq_reg ?_
    refine WL_move rfl rfl ?_
    refine WL_move rfl rfl ?_
    obtain ⟨x1, hr1, hF⟩ := bind_some hF
    refine WL_call Try.call51 rfl rfl (c_Q_szMethodS a2 u2 (g2.now hC1.keep) 1048576 x1 hr1) ?_
    intro _ w2 hv1
    obtain ⟨rfl, hB2⟩ := res_int hv1
    have hC2 := hC1.grow hB2
    refine WL_assign rfl rfl ?_
    refine WL_nil ?_
    refine W_seq ?_
    refine W_seq_reg ?_
    refine WL_move rfl rfl ?_
    refine WL_lss rfl rfl rfl ?_
    refine WL_nil ?_
    refine W_cond rfl (fun hc2 => ?_) (fun hc2 => ?_)
    · replace hF := ite_t hF hc2
      refine W_seq_reg ?_
      refine WL_assign rfl rfl ?_
      refine WL_nil ?_
      refine W_ret ?_
      refine nrm_ret ?_
      have hq2 := Option.some.inj hF
      subst hq2
      refine fn_ret1 rfl rfl ?_
      exact ⟨_, rfl, bool_res hC2 _⟩
    · replace hF := ite_f hF hc2
      refine W_skip ?_
      refine nrm_normal ?_
      refine W_seq_reg ?_
      refine WL_load_box_agg [(.int .i64 a3.1.1), u3, u4] hC2 0 rfl rfl rfl Try.isAgg108 Try.sizeOf108 rfl rfl ?_
      refine WL_move rfl rfl ?_
      obtain ⟨x2, hr2, hF⟩ := bind_some hF
      refine WL_call Try.call69 rfl rfl (c_Q_szTold ((a3.1.1, a3.1.2), a3.2) u3 (g3.now hC2.keep) u4 (g4.now hC2.keep) x1 x2 hr2) ?_
      intro _ w3 hv2
      obtain ⟨rfl, hB3⟩ := res_int hv2
      have hC3 := hC2.grow hB3
      refine WL_assign rfl rfl ?_
      refine WL_nil ?_
      refine W_seq ?_
      refine W_seq_reg ?_
      refine WL_move rfl rfl ?_
      refine WL_lss rfl rfl rfl ?_
      refine WL_nil ?_
      refine W_cond rfl (fun hc3 => ?_) (fun hc3 => ?_)
      · replace hF := ite_t hF hc3
        refine W_seq_reg ?_
        refine WL_assign rfl rfl ?_
        refine WL_nil ?_
        refine W_ret ?_
        refine nrm_ret ?_
        have hq3 := Option.some.inj hF
        subst hq3
        refine fn_ret1 rfl rfl ?_
        exact ⟨_, rfl, bool_res hC3 _⟩
      · replace hF := ite_f hF hc3
        refine W_skip ?_
        refine nrm_normal ?_
        refine W_seq ?_
        refine W_drawn 8 rfl hmix (fun w4 hB4 => ?_)
        have hC4 := hC3.grow hB4
        refine WA_take 0 rfl (by kernel_rfl) (by kernel_rfl) (by kernel_rfl) rfl (fl_move rfl) ?_
        refine WL_move rfl rfl ?_
        refine WL_nil ?_
        refine WA_take 2 rfl (by kernel_rfl) (by kernel_rfl) (by kernel_rfl) rfl (fl_move rfl) ?_
        refine WL_move rfl rfl ?_
        refine WL_nil ?_
        obtain ⟨x3, hr3, hF⟩ := bind_some hF
        obtain ⟨x4, hr4, hF⟩ := bind_some hF
        refine WA.sub (l' := [(0, u1), (1, u2), (2, (.agg #[(.int .i64 a3.1.1), u3, u4])), (5, (ptr b1 0)), (6, (.bool false)), (7, (.int .i64 x2)), (13, u1), (14, (.int .i64 (List.length a1 : Int))), (15, (.bool (decide (1048576 < (List.length a1 : Int))))), (16, u2), (17, (.int .i64 1048576)), (18, (.int .i64 x1)), (19, (.int .i64 x1)), (20, (.bool (decide (x1 < 0)))), (21, (.agg #[(.int .i64 a3.1.1), u3, u4])), (22, (.int .i64 x1)), (23, (.int .i64 x2)), (24, (.int .i64 x2)), (25, (.bool (decide (x2 < 0)))), (26, u1), (28, u2)]) ?_ ⟨rfl, rfl, rfl, rfl, rfl, rfl, rfl, rfl, rfl, rfl, rfl, rfl, rfl, rfl, rfl, rfl, rfl, rfl, rfl, rfl, rfl, trivial⟩
        refine WA_postsE [⟨1, [], fun vs => PW.own x3, []⟩, ⟨3, [], fun vs => PW.own x4, []⟩, ⟨4, [], fun vs => PW.val (.agg #[(.int .i64 a3.1.1), u3, u4]), []⟩] [[], [], []] 3 rfl (by kernel_rfl) (by kernel_rfl) rfl ?_ ?_
        · refine StepsE_cons rfl ?_ ?_
          · intro w7 hB7
            refine DepsE_nil ?_
            refine ⟨_, rfl, ?_⟩
            refine WL_call Try.call37 rfl rfl (c_Q_toIntS a1 u1 (g1.now (hC4.keep.then hB7)) x3 hr3) ?_
            rintro v1 w5 ⟨hB5, F1, hv3, hn1, hb1⟩
            refine WL_nil ?_
            exact FinE_own hB5 rfl rfl hv3 hn1 hb1 (Val.inh hv3)
          refine StepsE_cons rfl ?_ ?_
          · intro w7 hB7
            refine DepsE_nil ?_
            refine ⟨_, rfl, ?_⟩
            refine WL_call Try.call54 rfl rfl (c_Q_toMethodS a2 u2 (g2.now (hC4.keep.then hB7)) x4 hr4) ?_
            rintro v2 w6 ⟨hB6, F2, hv4, hn2, hb2⟩
            refine WL_nil ?_
            exact FinE_own hB6 rfl rfl hv4 hn2 hb2 (Val.inh hv4)
          refine StepsE_cons rfl ?_ ?_
          · intro w7 hB7
            refine DepsE_nil ?_
            refine ⟨_, rfl, ?_⟩
            refine WL_load_box_agg [(.int .i64 a3.1.1), u3, u4] (hC4.grow hB7) 0 rfl rfl rfl Try.isAgg108 Try.sizeOf108 rfl rfl ?_
            refine WL_nil ?_
            exact FinE_val (Below.refl _ _) rfl rfl ⟨rfl, rfl⟩
          exact StepsE_nil
        · intro w8 hB8
          refine AllE_cons rfl rfl rfl ?_
          intro v1 F1 hv3
          refine AllE_cons rfl rfl rfl ?_
          intro v2 F2 hv4
          refine AllE_cons rfl rfl rfl ?_
          rintro _ _ ⟨rfl, rfl⟩
          refine AllE_nil ?_
          intro hn3 hb3
          have hC5 := hC4.pushL hB8 (Bs := [Item.own v2 (x4 : (List (Int × (List Int) × Int × Int × Int))), Item.own v1 (x3 : (List Int))]) (Fs := [F2, F1]) ⟨F2, _, rfl, hv4, F1, _, rfl, hv3, rfl⟩ (by simpa using hn3) (fun b h => (hb3 b (by simpa using h)).1)
          obtain ⟨x5, hr5, hF⟩ := bind_some hF
          refine WA_one 5 (by kernel_rfl) rfl ?_
          refine WL_call Try.call71 rfl rfl (c_Q_toTold ((a3.1.1, a3.1.2), a3.2) u3 (g3.now hC5.keep) u4 (g4.now hC5.keep) x5 hr5) ?_
          rintro v3 w9 ⟨hB9, F3, hv5, hn4, hb4⟩
          have hC6 := hC5.push hB9 (A := Item.own v3 x5) hv5 hn4 hb4
          obtain ⟨v4, v5, rfl, hC7⟩ := st112_own hC6
          refine WL_nil ?_
          obtain ⟨x6, hr6, hF⟩ := bind_some hF
          refine WA_one 6 (by kernel_rfl) rfl ?_
          refine WL_call Try.call70 rfl rfl (c_S_IsTold x3 v1 ((hC7.ro 3 rfl).now (Keep.refl _ _)) x4 v2 ((hC7.ro 2 rfl).now (Keep.refl _ _)) x5 v4 ((hC7.ro 0 rfl).now (Keep.refl _ _)) v5 ((hC7.ro 1 rfl).now (Keep.refl _ _)) x6 hr6) ?_
          intro _ w10 hv6
          obtain ⟨rfl, hB10⟩ := res_bool hv6
          have hC8 := hC7.grow hB10
          refine WL_nil ?_
          refine WA_take 7 rfl (by kernel_rfl) (by kernel_rfl) (by kernel_rfl) rfl (fl_assign rfl) ?_
          refine WL_assign rfl rfl ?_
          refine WL_nil ?_
          refine WA_done (by kernel_rfl) ?_
          refine nrm_normal ?_
          refine W_seq_reg ?_
          refine WL_move rfl rfl ?_
          obtain ⟨x7, hr7, hF⟩ := bind_some hF
          refine WL_call Try.call37 rfl rfl (c_Q_toIntS a1 u1 (g1.now hC8.keep) x7 hr7) ?_
          rintro v6 w11 ⟨hB11, F4, hv7, hn5, hb5⟩
          have hC9 := hC8.push hB11 (A := Item.own v6 x7) hv7 hn5 hb5
          refine WL_assign rfl rfl ?_
          refine WL_nil ?_
          refine W_seq_reg ?_
          refine WL_move rfl rfl ?_
          obtain ⟨x8, hr8, hF⟩ := bind_some hF
          refine WL_call Try.call54 rfl rfl (c_Q_toMethodS a2 u2 (g2.now hC9.keep) x8 hr8) ?_
          rintro v7 w12 ⟨hB12, F5, hv8, hn6, hb6⟩
          have hC10 := hC9.push hB12 (A := Item.own v7 x8) hv8 hn6 hb6
          refine WL_assign rfl rfl ?_
          refine WL_nil ?_
          refine W_seq_reg ?_
          refine WL_load_box_agg [(.int .i64 a3.1.1), u3, u4] hC10 6 rfl rfl rfl Try.isAgg108 Try.sizeOf108 rfl rfl ?_
          obtain ⟨x9, hr9, hF⟩ := bind_some hF
          refine WL_call Try.call71 rfl rfl (c_Q_toTold ((a3.1.1, a3.1.2), a3.2) u3 (g3.now hC10.keep) u4 (g4.now hC10.keep) x9 hr9) ?_
          rintro v8 w13 ⟨hB13, F6, hv9, hn7, hb7⟩
          have hC11 := hC10.push hB13 (A := Item.own v8 x9) hv9 hn7 hb7
          obtain ⟨v9, v10, rfl, hC12⟩ := st112_own hC11
          refine WL_alloc hC12 zero112 rfl rfl (fun b2 w14 hC13 hB14 => ?_)
          refine WL_store_box_agg (cs' := [(.int .i64 x9.1.1), v9, v10]) (new := [(.int .i64 x9.1.1), v9, v10]) hC13 0 rfl rfl (by intro v hv; simp only [List.mem_cons, List.not_mem_nil, or_false] at hv; rcases hv with rfl | rfl | rfl; exact rfl; exact (ro_one (hC13.ro 1 rfl)); exact (ro_one (hC13.ro 2 rfl))) rfl Try.sizeOf112 rfl rfl (fun w15 hC14 => ?_)
          try dsimp only [List.set] at hC14
          refine WL_nil ?_
          refine W_seq_reg ?_
          refine WL_move rfl rfl ?_
          refine WL_move rfl rfl ?_
          refine WL_load_box_agg [(.int .i64 x9.1.1), v9, v10] hC14 0 rfl rfl rfl Try.isAgg112 Try.sizeOf112 rfl rfl ?_
          obtain ⟨x10, hr10, hF⟩ := bind_some hF
          refine WL_call Try.call72 rfl rfl (c_M_IsTold x7 v6 ((hC14.ro 4 rfl).now (Keep.refl _ _)) x8 v7 ((hC14.ro 3 rfl).now (Keep.refl _ _)) ((x9.1.1, x9.1.2), x9.2) v9 ((hC14.ro 1 rfl).now (Keep.refl _ _)) v10 ((hC14.ro 2 rfl).now (Keep.refl _ _)) x10 hr10) ?_
          intro _ w16 hv10
          obtain ⟨rfl, hB15⟩ := res_bool hv10
          have hC15 := hC14.grow hB15
          refine WL_assign rfl rfl ?_
          refine WL_nil ?_
          refine W_seq ?_
          refine W_seq_reg ?_
          refine WL_move rfl rfl ?_
          refine WL_move rfl rfl ?_
          refine WL_bool_neq Try.underlying4 rfl rfl rfl ?_
          refine WL_nil ?_
          refine W_cond rfl (fun hc4 => ?_) (fun hc4 => ?_)
          · replace hF := ite_t hF hc4
            refine W_seq_reg ?_
            refine WL_assign rfl rfl ?_
            refine WL_nil ?_
            refine W_ret ?_
            refine nrm_ret ?_
            have hq4 := Option.some.inj hF
            subst hq4
            refine fn_ret1 rfl rfl ?_
            exact ⟨_, rfl, bool_res hC15 _⟩
          · replace hF := ite_f hF hc4
            refine W_skip ?_
            refine nrm_normal ?_
            refine W_seq ?_
            refine W_seq_reg ?_
            refine WL_move rfl rfl ?_
            refine WL_move rfl rfl ?_
            obtain ⟨x11, hr11, hF⟩ := bind_some hF
            refine WL_call Try.call37 rfl rfl (c_Q_toIntS a1 u1 (g1.now hC15.keep) x11 hr11) ?_
            rintro v11 w17 ⟨hB16, F7, hv11, hn8, hb8⟩
            have hC16 := hC15.push hB16 (A := Item.own v11 x11) hv11 hn8 hb8
            obtain ⟨x12, hr12, hF⟩ := bind_some hF
            refine WL_call Try.call39 rfl rfl (c_Q_eqIntS x7 v6 ((hC16.ro 5 rfl).now (Keep.refl _ _)) x11 v11 ((hC16.ro 0 rfl).now (Keep.refl _ _)) x12 hr12) ?_
            intro _ w18 hv12
            obtain ⟨rfl, hB17⟩ := res_bool hv12
            have hC17 := hC16.grow hB17
            refine WL_not rfl rfl ?_
            refine WL_nil ?_
            refine W_cond rfl (fun hc5 => ?_) (fun hc5 => ?_)
            · replace hF := ite_t hF hc5
              refine W_seq_reg ?_
              refine WL_assign rfl rfl ?_
              refine WL_nil ?_
              refine W_ret ?_
              refine nrm_ret ?_
              have hq5 := Option.some.inj hF
              subst hq5
              refine fn_ret1 rfl rfl ?_
              exact ⟨_, rfl, bool_res hC17 _⟩
            · replace hF := ite_f hF hc5
              refine W_skip ?_
              refine nrm_normal ?_
              refine W_seq ?_
              refine W_seq_reg ?_
              refine WL_move rfl rfl ?_
              refine WL_move rfl rfl ?_
              obtain ⟨x13, hr13, hF⟩ := bind_some hF
              refine WL_call Try.call54 rfl rfl (c_Q_toMethodS a2 u2 (g2.now hC17.keep) x13 hr13) ?_
              rintro v12 w19 ⟨hB18, F8, hv13, hn9, hb9⟩
              have hC18 := hC17.push hB18 (A := Item.own v12 x13) hv13 hn9 hb9
              obtain ⟨x14, hr14, hF⟩ := bind_some hF
              refine WL_call Try.call57 rfl rfl (c_Q_eqMethodS x8 v7 ((hC18.ro 5 rfl).now (Keep.refl _ _)) x13 v12 ((hC18.ro 0 rfl).now (Keep.refl _ _)) x14 hr14) ?_
              intro _ w20 hv14
              obtain ⟨rfl, hB19⟩ := res_bool hv14
              have hC19 := hC18.grow hB19
              refine WL_not rfl rfl ?_
              refine WL_nil ?_
              refine W_cond rfl (fun hc6 => ?_) (fun hc6 => ?_)
              · replace hF := ite_t hF hc6
                refine W_seq_reg ?_
                refine WL_assign rfl rfl ?_
                refine WL_nil ?_
                refine W_ret ?_
                refine nrm_ret ?_
                have hq6 := Option.some.inj hF
                subst hq6
                refine fn_ret1 rfl rfl ?_
                exact ⟨_, rfl, bool_res hC19 _⟩
              · replace hF := ite_f hF hc6
                refine W_skip ?_
                refine nrm_normal ?_
                refine W_seq ?_
                refine W_seq ?_
                refine W_drawn 5 rfl hmix (fun w21 hB20 => ?_)
                have hC20 := hC19.grow hB20
                obtain ⟨x15, hr15, hF⟩ := bind_some hF
                refine WA.sub (l' := [(0, u1), (1, u2), (2, (.agg #[(.int .i64 a3.1.1), u3, u4])), (5, (ptr b1 0)), (6, (.bool false)), (7, (.int .i64 x2)), (8, (.bool x6)), (9, v6), (10, v7), (11, (ptr b2 0)), (12, (.bool x10)), (13, u1), (14, (.int .i64 (List.length a1 : Int))), (15, (.bool (decide (1048576 < (List.length a1 : Int))))), (16, u2), (17, (.int .i64 1048576)), (18, (.int .i64 x1)), (19, (.int .i64 x1)), (20, (.bool (decide (x1 < 0)))), (21, (.agg #[(.int .i64 a3.1.1), u3, u4])), (22, (.int .i64 x1)), (23, (.int .i64 x2)), (24, (.int .i64 x2)), (25, (.bool (decide (x2 < 0)))), (26, u1), (27, v1), (28, u2), (29, v2), (30, (.agg #[(.int .i64 a3.1.1), u3, u4])), (31, (.agg #[(.int .i64 x5.1.1), v4, v5])), (32, (.bool x6)), (33, u1), (34, v6), (35, u2), (36, v7), (37, (.agg #[(.int .i64 a3.1.1), u3, u4])), (38, (.agg #[(.int .i64 x9.1.1), v9, v10])), (39, v6), (40, v7), (41, (.agg #[(.int .i64 x9.1.1), v9, v10])), (42, (.bool x10)), (43, (.bool x10)), (44, (.bool x6)), (45, (.bool (!decide (x10 = x6)))), (46, v6), (47, u1), (48, v11), (49, (.bool x12)), (50, (.bool (!x12))), (51, v7), (52, u2), (53, v12), (54, (.bool x14)), (55, (.bool (!x14)))]) ?_ ⟨rfl, rfl, rfl, rfl, rfl, rfl, rfl, rfl, rfl, rfl, rfl, rfl, rfl, rfl, rfl, rfl, rfl, rfl, rfl, rfl, rfl, rfl, rfl, rfl, rfl, rfl, rfl, rfl, rfl, rfl, rfl, rfl, rfl, rfl, rfl, rfl, rfl, rfl, rfl, rfl, rfl, rfl, rfl, rfl, rfl, rfl, rfl, rfl, rfl, rfl, rfl, rfl, rfl, rfl, trivial⟩
                refine WA_postsE [⟨0, [], fun vs => PW.val (.agg #[(.int .i64 x9.1.1), v9, v10]), []⟩, ⟨1, [], fun vs => PW.val (.agg #[(.int .i64 a3.1.1), u3, u4]), []⟩, ⟨2, [], fun vs => PW.own x15, []⟩] [[], [], [1]] 2 rfl (by kernel_rfl) (by kernel_rfl) rfl ?_ ?_
                · refine StepsE_cons rfl ?_ ?_
                  · intro w23 hB22
                    refine DepsE_nil ?_
                    refine ⟨_, rfl, ?_⟩
                    refine WL_load_box_agg [(.int .i64 x9.1.1), v9, v10] (hC20.grow hB22) 2 rfl rfl rfl Try.isAgg112 Try.sizeOf112 rfl rfl ?_
                    refine WL_nil ?_
                    exact FinE_val (Below.refl _ _) rfl rfl ⟨rfl, rfl⟩
                  refine StepsE_cons rfl ?_ ?_
                  · intro w23 hB22
                    refine DepsE_nil ?_
                    refine ⟨_, rfl, ?_⟩
                    refine WL_load_box_agg [(.int .i64 a3.1.1), u3, u4] (hC20.grow hB22) 11 rfl rfl rfl Try.isAgg108 Try.sizeOf108 rfl rfl ?_
                    refine WL_nil ?_
                    exact FinE_val (Below.refl _ _) rfl rfl ⟨rfl, rfl⟩
                  refine StepsE_cons rfl ?_ ?_
                  · intro w23 hB22
                    refine DepsE_cons rfl rfl rfl ?_
                    rintro _ _ ⟨rfl, rfl⟩ _
                    refine DepsE_nil ?_
                    refine ⟨_, rfl, ?_⟩
                    refine WL_call Try.call71 rfl rfl (c_Q_toTold ((a3.1.1, a3.1.2), a3.2) u3 (g3.now (hC20.keep.then hB22)) u4 (g4.now (hC20.keep.then hB22)) x15 hr15) ?_
                    rintro v13 w22 ⟨hB21, F9, hv15, hn10, hb10⟩
                    refine WL_nil ?_
                    exact FinE_own hB21 rfl rfl hv15 hn10 hb10 (Val.inh hv15)
                  exact StepsE_nil
                · intro w24 hB23
                  refine AllE_cons rfl rfl rfl ?_
                  rintro _ _ ⟨rfl, rfl⟩
                  refine AllE_cons rfl rfl rfl ?_
                  rintro _ _ ⟨rfl, rfl⟩
                  refine AllE_cons rfl rfl rfl ?_
                  intro v13 F9 hv15
                  refine AllE_nil ?_
                  intro hn11 hb11
                  have hC21 := hC20.pushL hB23 (Bs := [Item.own v13 (x15 : ((Int × (List Int)) × (List (Int × (List Int)))))]) (Fs := [F9]) ⟨F9, _, rfl, hv15, rfl⟩ (by simpa using hn11) (fun b h => (hb11 b (by simpa using h)).1)
                  obtain ⟨v16, v17, rfl, hC22⟩ := st112_own hC21
                  obtain ⟨x16, hr16, hF⟩ := bind_some hF
                  refine WA_one 3 (by kernel_rfl) rfl ?_
                  refine WL_call Try.call73 rfl rfl (c_Q_eqTold ((x9.1.1, x9.1.2), x9.2) v9 ((hC22.ro 5 rfl).now (Keep.refl _ _)) v10 ((hC22.ro 6 rfl).now (Keep.refl _ _)) x15 v16 ((hC22.ro 0 rfl).now (Keep.refl _ _)) v17 ((hC22.ro 1 rfl).now (Keep.refl _ _)) x16 hr16) ?_
                  intro _ w25 hv16
                  obtain ⟨rfl, hB24⟩ := res_bool hv16
                  have hC23 := hC22.grow hB24
                  refine WL_nil ?_
                  refine WA_take 4 rfl (by kernel_rfl) (by kernel_rfl) (by kernel_rfl) rfl (fl_not rfl) ?_
                  refine WL_not rfl rfl ?_
                  refine WL_nil ?_
                  refine WA_done (by kernel_rfl) ?_
                  refine nrm_normal ?_
                  refine W_cond rfl (fun hc7 => ?_) (fun hc7 => ?_)
                  · replace hF := ite_t hF hc7
                    refine W_seq_reg ?_
                    refine WL_assign rfl rfl ?_
                    refine WL_nil ?_
                    refine W_ret ?_
                    refine nrm_ret ?_
                    have hq7 := Option.some.inj hF
                    subst hq7
                    refine fn_ret1 rfl rfl ?_
                    exact ⟨_, rfl, bool_res hC23 _⟩
                  · replace hF := ite_f hF hc7
                    refine W_skip ?_
                    refine nrm_normal ?_
                    refine W_seq_reg ?_
                    refine WL_assign rfl rfl ?_
                    refine WL_nil ?_
                    refine W_ret ?_
                    have hq8 := Option.some.inj hF
                    subst hq8
                    refine fn_ret1 rfl rfl ?_
                    exact ⟨_, rfl, bool_res hC23 _⟩

end Go.Gx.Px
