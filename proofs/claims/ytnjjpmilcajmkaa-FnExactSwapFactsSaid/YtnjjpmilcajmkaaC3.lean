/- The contracts of the Go functions against the pure functions, printed by program. Conditions: each says them. -/
import Derived.Test.YtnjjpmilcajmkaaC2
set_option linter.unusedVariables false
set_option linter.unusedSimpArgs false
set_option maxRecDepth 100000
namespace Go.Gx.Px
open Go.Proofs Go.RowKit

theorem c_M_IsFact {w0 : World} (a1 : (List Int)) (u1 : Value) (g1 : RO [] w0 u1 a1) (a2 : (Int × (List Int))) (u2 : Value) (g2 : RO [] w0 u2 a2.2) (rr : Bool) (hF : M.IsFact a1 a2 = some rr) :
    Calls Try.prog 147 [u1, (.agg #[(.int .i64 a2.1), u2])].toArray w0 fun e w' => ∃ v, e = .returned v ∧ Res w0 rr v w' := by
  refine calls_of_W Try.func147 rfl rfl ?_
  have hC0 := Ctx.start w0
  unfold M.IsFact at hF
  refine W_seq_reg ?_
  refine WL_box (cs := [(.int .i64 a2.1), u2]) hC0 rfl rfl rfl (fun b1 w1 hC1 hB1 => ?_)
  refine WL_assign rfl rfl ?_
  refine WL_nil ?_
  obtain ⟨r1, hr1, hF⟩ := bind_some hF
  refine W_cut (fun l w => ∃ x1 : Bool, x1 = r1 ∧ l = [(4, (.bool x1))] ∧ Below w1.heap.size w1 w ∧ Ctx [] w0 w []) ?_ ?_
  · refine W_drawn 21 rfl hmix (fun w3 hB3 => ?_)
    have hC3 := hC1.grow hB3
    refine WA_take 0 rfl (by kernel_rfl) (by kernel_rfl) (by kernel_rfl) rfl (fl_move rfl) ?_
    refine WL_move rfl rfl ?_
    refine WL_nil ?_
    refine WA_take 1 rfl (by kernel_rfl) (by kernel_rfl) (by kernel_rfl) rfl (fl_field Try.underlying165 rfl rfl (fun w => ⟨_, Try.sizeOf3 w⟩) rfl) ?_
    refine WL_field Try.underlying165 rfl rfl (fun w => ⟨_, Try.sizeOf3 w⟩) rfl rfl ?_
    refine WL_nil ?_
    refine WA_one 2 (by kernel_rfl) rfl ?_
    refine WL_load_box hC3 0 rfl rfl Try.isAgg3 rfl rfl ?_
    refine WL_nil ?_
    obtain ⟨x2, hr2, hr1⟩ := bind_some hr1
    refine WA_one 3 (by kernel_rfl) rfl ?_
    refine WL_call Try.call179 rfl rfl (c_M_hasRel a1 u1 (g1.now hC3.keep) a2.1 x2 hr2) ?_
    intro _ w4 hv1
    obtain ⟨rfl, hB4⟩ := res_bool hv1
    have hC4 := hC3.grow hB4
    refine WL_nil ?_
    refine WA_take 4 rfl (by kernel_rfl) (by kernel_rfl) (by kernel_rfl) rfl (fl_move rfl) ?_
    refine WL_move rfl rfl ?_
    refine WL_nil ?_
    refine WA_fork (fun hc1 => ?_) (fun hc1 => ?_)
    · replace hr1 := ite_t hr1 hc1
      refine WA_takeG 5 rfl (by kernel_rfl) (by kernel_rfl) (by kernel_rfl) rfl rfl rfl (fl_field Try.underlying165 rfl rfl (fun w => ⟨_, Try.sizeOf22 w⟩) rfl) ?_
      refine WL_guard rfl rfl ?_
      refine WL_field Try.underlying165 rfl rfl (fun w => ⟨_, Try.sizeOf22 w⟩) rfl rfl ?_
      refine WL_nil ?_
      refine WA_takeG 8 rfl (by kernel_rfl) (by kernel_rfl) (by kernel_rfl) rfl rfl rfl (fl_move rfl) ?_
      refine WL_guard rfl rfl ?_
      refine WL_move rfl rfl ?_
      refine WL_nil ?_
      refine WA_takeG 9 rfl (by kernel_rfl) (by kernel_rfl) (by kernel_rfl) rfl rfl rfl (fl_field Try.underlying165 rfl rfl (fun w => ⟨_, Try.sizeOf3 w⟩) rfl) ?_
      refine WL_guard rfl rfl ?_
      refine WL_field Try.underlying165 rfl rfl (fun w => ⟨_, Try.sizeOf3 w⟩) rfl rfl ?_
      refine WL_nil ?_
      obtain ⟨x3, hx1, hr1⟩ := bind_some hr1
      refine WA.sub (l' := [(0, u1), (1, (.agg #[(.int .i64 a2.1), u2])), (3, (ptr b1 0)), (4, (.bool false)), (5, u1), (6, (ptr b1 0)), (7, (.int .i64 a2.1)), (8, (.bool x2)), (9, (.bool true)), (10, (ptr b1 1)), (13, u1), (14, (ptr b1 0))]) ?_ ⟨rfl, rfl, rfl, rfl, rfl, rfl, rfl, rfl, rfl, rfl, rfl, rfl, trivial⟩
      refine WA_postsE [⟨6, [], fun vs => PW.val u2, []⟩, ⟨7, [], fun vs => PW.val (.int .i64 (List.length a2.2 : Int)), []⟩, ⟨10, [], fun vs => PW.val (.int .i64 a2.1), []⟩, ⟨11, [], fun vs => PW.at [] w0 x3, []⟩, ⟨12, [], fun vs => PW.val (.int .i64 x3), []⟩] [[], [6], [], [10], [11]] 8 rfl (by kernel_rfl) (by kernel_rfl) rfl ?_ ?_
      · refine StepsE_cons rfl ?_ ?_
        · intro w5 hB5
          refine DepsE_nil ?_
          refine ⟨_, rfl, ?_⟩
          refine WL_guard rfl rfl ?_
          refine WL_load_box (hC4.grow hB5) 0 rfl rfl Try.isAgg22 rfl rfl ?_
          refine WL_nil ?_
          exact FinE_val (Below.refl _ _) rfl rfl ⟨rfl, rfl⟩
        refine StepsE_cons rfl ?_ ?_
        · intro w5 hB5
          refine DepsE_cons rfl rfl rfl ?_
          rintro _ _ ⟨rfl, rfl⟩ _
          refine DepsE_nil ?_
          refine ⟨_, rfl, ?_⟩
          refine WL_guard rfl rfl ?_
          refine WL_len Try.underlying22 g2 rfl rfl ?_
          refine WL_nil ?_
          exact FinE_val (Below.refl _ _) rfl rfl ⟨rfl, rfl⟩
        refine StepsE_cons rfl ?_ ?_
        · intro w5 hB5
          refine DepsE_nil ?_
          refine ⟨_, rfl, ?_⟩
          refine WL_guard rfl rfl ?_
          refine WL_load_box (hC4.grow hB5) 0 rfl rfl Try.isAgg3 rfl rfl ?_
          refine WL_nil ?_
          exact FinE_val (Below.refl _ _) rfl rfl ⟨rfl, rfl⟩
        refine StepsE_cons rfl ?_ ?_
        · intro w5 hB5
          refine DepsE_cons rfl rfl rfl ?_
          rintro _ _ ⟨rfl, rfl⟩ _
          refine DepsE_nil ?_
          refine ⟨_, rfl, ?_⟩
          refine WL_guard rfl rfl ?_
          refine WL_index Try.underlying22 ty3 g1 hx1 rfl rfl rfl (fun b2 o1 h1 => ?_)
          refine WL_nil ?_
          exact FinE_val (Below.refl _ _) rfl rfl ⟨rfl, _, _, rfl, h1⟩
        refine StepsE_cons rfl ?_ ?_
        · intro w5 hB5
          refine DepsE_cons rfl rfl rfl ?_
          rintro _ _ ⟨rfl, b2, o1, rfl, h1⟩ _
          refine DepsE_nil ?_
          refine ⟨_, rfl, ?_⟩
          refine WL_guard rfl rfl ?_
          refine WL_load ty3 h1 (hC4.keep.then hB5) rfl rfl (fun v1 h2 => ?_)
          obtain rfl := ro_int h2
          refine WL_nil ?_
          exact FinE_val (Below.refl _ _) rfl rfl ⟨rfl, rfl⟩
        exact StepsE_nil
      · intro w6 hB6
        refine AllE_cons rfl rfl rfl ?_
        rintro _ _ ⟨rfl, rfl⟩
        refine AllE_cons rfl rfl rfl ?_
        rintro _ _ ⟨rfl, rfl⟩
        refine AllE_cons rfl rfl rfl ?_
        rintro _ _ ⟨rfl, rfl⟩
        refine AllE_cons rfl rfl rfl ?_
        rintro _ _ ⟨rfl, b2, o1, rfl, h1⟩
        refine AllE_cons rfl rfl rfl ?_
        rintro _ _ ⟨rfl, rfl⟩
        refine AllE_nil ?_
        intro hn1 hb1
        have hC5 := hC4.grow hB6
        refine WA_takeG 13 rfl (by kernel_rfl) (by kernel_rfl) (by kernel_rfl) rfl rfl rfl (fl_eql rfl rfl) ?_
        refine WL_guard rfl rfl ?_
        refine WL_eql rfl rfl rfl ?_
        refine WL_nil ?_
        refine WA_take 14 rfl (by kernel_rfl) (by kernel_rfl) (by kernel_rfl) rfl (fl_pick_t rfl rfl) ?_
        refine WL_pick_t rfl rfl rfl ?_
        refine WL_nil ?_
        refine WA_take 15 rfl (by kernel_rfl) (by kernel_rfl) (by kernel_rfl) rfl (fl_move rfl) ?_
        refine WL_move rfl rfl ?_
        refine WL_nil ?_
        refine WA_fork (fun hc2 => ?_) (fun hc2 => ?_)
        · replace hr1 := ite_t hr1 hc2
          refine WA_takeG 16 rfl (by kernel_rfl) (by kernel_rfl) (by kernel_rfl) rfl rfl rfl (fl_field Try.underlying165 rfl rfl (fun w => ⟨_, Try.sizeOf22 w⟩) rfl) ?_
          refine WL_guard rfl rfl ?_
          refine WL_field Try.underlying165 rfl rfl (fun w => ⟨_, Try.sizeOf22 w⟩) rfl rfl ?_
          refine WL_nil ?_
          refine WA_one 17 (by kernel_rfl) rfl ?_
          refine WL_guard rfl rfl ?_
          refine WL_load_box hC5 0 rfl rfl Try.isAgg22 rfl rfl ?_
          refine WL_nil ?_
          obtain ⟨x4, hr3, hr1⟩ := bind_some hr1
          refine WA_one 18 (by kernel_rfl) rfl ?_
          refine WL_guard rfl rfl ?_
          refine WL_call Try.call152 rfl rfl (c_M_areValues a2.2 u2 (g2.now hC5.keep) x4 hr3) ?_
          intro _ w7 hv2
          obtain ⟨rfl, hB7⟩ := res_bool hv2
          have hC6 := hC5.grow hB7
          refine WL_nil ?_
          refine WA_take 19 rfl (by kernel_rfl) (by kernel_rfl) (by kernel_rfl) rfl (fl_pick_t rfl rfl) ?_
          refine WL_pick_t rfl rfl rfl ?_
          refine WL_nil ?_
          refine WA_take 20 rfl (by kernel_rfl) (by kernel_rfl) (by kernel_rfl) rfl (fl_assign rfl) ?_
          refine WL_assign rfl rfl ?_
          refine WL_nil ?_
          refine WA_done (by kernel_rfl) ?_
          have hq1 := Option.some.inj hr1
          subst hq1
          have hC7 : Ctx [] w0 _ [] := hC6.headN 0
          refine nrm_sub (l' := [(4, (.bool x4))]) ⟨rfl, trivial⟩ ?_
          exact ⟨x4, rfl, rfl, ((((Keep.of hB3).then hB4).then hB6).then hB7).below, hC7⟩
        · replace hr1 := ite_f hr1 hc2
          refine WA_skip 16 rfl (by kernel_rfl) (by kernel_rfl) (by kernel_rfl) rfl rfl rfl (by simp) rfl rfl ?_
          refine WA_skip 17 rfl (by kernel_rfl) (by kernel_rfl) (by kernel_rfl) rfl rfl rfl (by simp) rfl rfl ?_
          refine WA_skip 18 rfl (by kernel_rfl) (by kernel_rfl) (by kernel_rfl) rfl rfl rfl (by simp) rfl rfl ?_
          refine WA_take 19 rfl (by kernel_rfl) (by kernel_rfl) (by kernel_rfl) rfl (fl_pick_f rfl rfl) ?_
          refine WL_pick_f rfl rfl rfl ?_
          refine WL_nil ?_
          refine WA_take 20 rfl (by kernel_rfl) (by kernel_rfl) (by kernel_rfl) rfl (fl_assign rfl) ?_
          refine WL_assign rfl rfl ?_
          refine WL_nil ?_
          refine WA_done (by kernel_rfl) ?_
          have hq2 := Option.some.inj hr1
          subst hq2
          have hC8 : Ctx [] w0 _ [] := hC5.headN 0
          refine nrm_sub (l' := [(4, (.bool false))]) ⟨rfl, trivial⟩ ?_
          exact ⟨false, rfl, rfl, (((Keep.of hB3).then hB4).then hB6).below, hC8⟩
    · replace hr1 := ite_f hr1 hc1
      refine WA_skip 5 rfl (by kernel_rfl) (by kernel_rfl) (by kernel_rfl) rfl rfl rfl (by simp) rfl rfl ?_
      refine WA_skip 6 rfl (by kernel_rfl) (by kernel_rfl) (by kernel_rfl) rfl rfl rfl (by simp) rfl rfl ?_
      refine WA_skip 7 rfl (by kernel_rfl) (by kernel_rfl) (by kernel_rfl) rfl rfl rfl (by simp) rfl rfl ?_
      refine WA_skip 8 rfl (by kernel_rfl) (by kernel_rfl) (by kernel_rfl) rfl rfl rfl (by simp) rfl rfl ?_
      refine WA_skip 9 rfl (by kernel_rfl) (by kernel_rfl) (by kernel_rfl) rfl rfl rfl (by simp) rfl rfl ?_
      refine WA_skip 10 rfl (by kernel_rfl) (by kernel_rfl) (by kernel_rfl) rfl rfl rfl (by simp) rfl rfl ?_
      refine WA_skip 11 rfl (by kernel_rfl) (by kernel_rfl) (by kernel_rfl) rfl rfl rfl (by simp) rfl rfl ?_
      refine WA_skip 12 rfl (by kernel_rfl) (by kernel_rfl) (by kernel_rfl) rfl rfl rfl (by simp) rfl rfl ?_
      refine WA_skip 13 rfl (by kernel_rfl) (by kernel_rfl) (by kernel_rfl) rfl rfl rfl (by simp) rfl rfl ?_
      refine WA_take 14 rfl (by kernel_rfl) (by kernel_rfl) (by kernel_rfl) rfl (fl_pick_f rfl rfl) ?_
      refine WL_pick_f rfl rfl rfl ?_
      refine WL_nil ?_
      refine WA_take 15 rfl (by kernel_rfl) (by kernel_rfl) (by kernel_rfl) rfl (fl_move rfl) ?_
      refine WL_move rfl rfl ?_
      refine WL_nil ?_
      refine WA_skip 16 rfl (by kernel_rfl) (by kernel_rfl) (by kernel_rfl) rfl rfl rfl (by simp) rfl rfl ?_
      refine WA_skip 17 rfl (by kernel_rfl) (by kernel_rfl) (by kernel_rfl) rfl rfl rfl (by simp) rfl rfl ?_
      refine WA_skip 18 rfl (by kernel_rfl) (by kernel_rfl) (by kernel_rfl) rfl rfl rfl (by simp) rfl rfl ?_
      refine WA_take 19 rfl (by kernel_rfl) (by kernel_rfl) (by kernel_rfl) rfl (fl_pick_f rfl rfl) ?_
      refine WL_pick_f rfl rfl rfl ?_
      refine WL_nil ?_
      refine WA_take 20 rfl (by kernel_rfl) (by kernel_rfl) (by kernel_rfl) rfl (fl_assign rfl) ?_
      refine WL_assign rfl rfl ?_
      refine WL_nil ?_
      refine WA_done (by kernel_rfl) ?_
      have hq3 := Option.some.inj hr1
      subst hq3
      have hC9 : Ctx [] w0 _ [] := hC4.headN 0
      refine nrm_sub (l' := [(4, (.bool false))]) ⟨rfl, trivial⟩ ?_
      exact ⟨false, rfl, rfl, ((Keep.of hB3).then hB4).below, hC9⟩
  · rintro _ w2 ⟨x1, rfl, rfl, hB2, hC2⟩
    try dsimp only at hF
    refine W_ret ?_
    have hq4 := Option.some.inj hF
    subst hq4
    refine fn_ret1 rfl rfl ?_
    exact ⟨_, rfl, bool_res hC2 _⟩

theorem c_M_AreFacts {w0 : World} (a1 : (List Int)) (u1 : Value) (g1 : RO [] w0 u1 a1) (a2 : (List (Int × (List Int)))) (u2 : Value) (g2 : RO [] w0 u2 a2) (rr : Bool) (hF : M.AreFacts a1 a2 = some rr) :
    Calls Try.prog 120 [u1, u2].toArray w0 fun e w' => ∃ v, e = .returned v ∧ Res w0 rr v w' := by
  refine calls_of_W Try.func120 rfl rfl ?_
  have hC0 := Ctx.start w0
  unfold M.AreFacts at hF
  refine W_seq_reg ?_
  refine WL_assign rfl rfl ?_
  refine WL_nil ?_
  refine W_seq ?_
  refine W_seq_reg ?_
  refine WL_move rfl rfl ?_
  refine WL_len Try.underlying100 g2 rfl rfl ?_
  refine WL_move rfl rfl ?_
  refine WL_nil ?_
  obtain ⟨r1, hr1, hF⟩ := bind_some hF
  refine W_norm (fun l w => .inl () = r1 ∧ l = [(0, u1), (1, u2)] ∧ Ctx [] w0 w []) ?_ ?_
  · refine W_block ?_
    refine W.sub (l' := [(0, u1), (1, u2), (7, u2), (8, (.int .i64 (List.length a2 : Int))), (9, (.int .i64 0))]) ?_ ⟨rfl, rfl, rfl, rfl, rfl, trivial⟩
    refine W_loop (fun k l w => ∃ x1 : Int, l = [(0, u1), (1, u2), (7, u2), (8, (.int .i64 (List.length a2 : Int))), (9, (.int .i64 x1))] ∧ Ctx [] w0 w [] ∧ M.AreFacts_l1 a2 a1 k x1 = some r1) FUEL ⟨0, rfl, hC0, hr1⟩ ?_
    clear hr1
    rintro k1 _ w1 ⟨x1, rfl, hC1, hL1⟩
    cases k1 with
    | zero => rw [M.AreFacts_l1] at hL1; cases hL1
    | succ k1 =>
      rw [M.AreFacts_l1] at hL1
      refine W_seq_reg ?_
      refine WL_lss rfl rfl rfl ?_
      refine WL_nil ?_
      refine W_seq ?_
      refine W_cond rfl (fun hc1 => ?_) (fun hc1 => ?_)
      · replace hL1 := ite_t hL1 hc1
        refine W_skip ?_
        refine nrm_normal ?_
        refine W_seq ?_
        refine W_block ?_
        refine W_seq_reg ?_
        refine WL_move rfl rfl ?_
        obtain ⟨x2, hx1, hL1⟩ := bind_some hL1
        refine WL_index Try.underlying100 ty165 g2 hx1 rfl rfl rfl (fun b1 o1 h1 => ?_)
        refine WL_load ty165 h1 hC1.keep rfl rfl (fun v1 h2 => ?_)
        obtain ⟨v2, rfl, h3⟩ := ro_st165 h2
        refine WL_alloc hC1 zero165 rfl rfl (fun b2 w2 hC2 hB2 => ?_)
        refine WL_assign rfl rfl ?_
        refine WL_store_box_agg (cs' := [(.int .i64 x2.1), v2]) (new := [(.int .i64 x2.1), v2]) hC2 0 rfl rfl (by intro v hv; simp only [List.mem_cons, List.not_mem_nil, or_false] at hv; rcases hv with rfl | rfl; exact rfl; exact (ro_one h3)) rfl Try.sizeOf165 rfl rfl (fun w3 hC3 => ?_)
        try dsimp only [List.set] at hC3
        refine WL_nil ?_
        obtain ⟨r2, hr2, hL1⟩ := bind_some hL1
        refine W_cut (fun l w => ∃ x3 : Bool, x3 = r2 ∧ l = [(0, u1), (1, u2), (7, u2), (8, (.int .i64 (List.length a2 : Int))), (9, (.int .i64 x1)), (31, (.bool x3))] ∧ Below w3.heap.size w3 w ∧ Ctx [] w0 w []) ?_ ?_
        · refine W_drawn 18 rfl hmix (fun w5 hB4 => ?_)
          have hC5 := hC3.grow hB4
          refine WA_take 0 rfl (by kernel_rfl) (by kernel_rfl) (by kernel_rfl) rfl (fl_move rfl) ?_
          refine WL_move rfl rfl ?_
          refine WL_nil ?_
          refine WA_one 1 (by kernel_rfl) rfl ?_
          refine WL_load_box_agg [(.int .i64 x2.1), v2] hC5 0 rfl rfl rfl Try.isAgg165 Try.sizeOf165 rfl rfl ?_
          refine WL_nil ?_
          obtain ⟨x4, hr3, hr2⟩ := bind_some hr2
          refine WA_one 2 (by kernel_rfl) rfl ?_
          refine WL_call Try.call147 rfl rfl (c_M_IsFact a1 u1 (g1.now hC5.keep) (x2.1, x2.2) v2 (h3.now hC5.keep) x4 hr3) ?_
          intro _ w6 hv1
          obtain ⟨rfl, hB5⟩ := res_bool hv1
          have hC6 := hC5.grow hB5
          refine WL_nil ?_
          refine WA_take 3 rfl (by kernel_rfl) (by kernel_rfl) (by kernel_rfl) rfl (fl_not rfl) ?_
          refine WL_not rfl rfl ?_
          refine WL_nil ?_
          refine WA_take 4 rfl (by kernel_rfl) (by kernel_rfl) (by kernel_rfl) rfl (fl_move rfl) ?_
          refine WL_move rfl rfl ?_
          refine WL_nil ?_
          refine WA_fork (fun hc2 => ?_) (fun hc2 => ?_)
          · replace hr2 := ite_t hr2 hc2
            refine WA_skip 5 rfl (by kernel_rfl) (by kernel_rfl) (by kernel_rfl) rfl rfl rfl (by simp) rfl rfl ?_
            refine WA_skip 6 rfl (by kernel_rfl) (by kernel_rfl) (by kernel_rfl) rfl rfl rfl (by simp) rfl rfl ?_
            refine WA_skip 7 rfl (by kernel_rfl) (by kernel_rfl) (by kernel_rfl) rfl rfl rfl (by simp) rfl rfl ?_
            refine WA_skip 8 rfl (by kernel_rfl) (by kernel_rfl) (by kernel_rfl) rfl rfl rfl (by simp [undef]) rfl rfl ?_
            refine WA_skip 9 rfl (by kernel_rfl) (by kernel_rfl) (by kernel_rfl) rfl rfl rfl (by simp [undef]) rfl rfl ?_
            refine WA_skip 10 rfl (by kernel_rfl) (by kernel_rfl) (by kernel_rfl) rfl rfl rfl (by simp [undef]) rfl rfl ?_
            refine WA_skip 11 rfl (by kernel_rfl) (by kernel_rfl) (by kernel_rfl) rfl rfl rfl (by simp [undef]) rfl rfl ?_
            refine WA_skip 12 rfl (by kernel_rfl) (by kernel_rfl) (by kernel_rfl) rfl rfl rfl (by simp [undef]) rfl rfl ?_
            refine WA_skip 13 rfl (by kernel_rfl) (by kernel_rfl) (by kernel_rfl) rfl rfl rfl (by simp [undef]) rfl rfl ?_
            refine WA_skip 14 rfl (by kernel_rfl) (by kernel_rfl) (by kernel_rfl) rfl rfl rfl (by simp [undef]) rfl rfl ?_
            refine WA_skip 15 rfl (by kernel_rfl) (by kernel_rfl) (by kernel_rfl) rfl rfl rfl (by simp [undef]) rfl rfl ?_
            refine WA_skip 16 rfl (by kernel_rfl) (by kernel_rfl) (by kernel_rfl) rfl rfl rfl (by simp) rfl rfl ?_
            refine WA_take 17 rfl (by kernel_rfl) (by kernel_rfl) (by kernel_rfl) rfl (fl_pick_t rfl rfl) ?_
            refine WL_pick_t rfl rfl rfl ?_
            refine WL_nil ?_
            refine WA_done (by kernel_rfl) ?_
            have hq1 := Option.some.inj hr2
            subst hq1
            have hC7 : Ctx [] w0 _ [] := hC6.headN 0
            refine nrm_sub (l' := [(0, u1), (1, u2), (7, u2), (8, (.int .i64 (List.length a2 : Int))), (9, (.int .i64 x1)), (31, (.bool true))]) ⟨rfl, rfl, rfl, rfl, rfl, rfl, trivial⟩ ?_
            exact ⟨true, rfl, rfl, ((Keep.of hB4).then hB5).below, hC7⟩
          · replace hr2 := ite_f hr2 hc2
            refine WA_takeG 5 rfl (by kernel_rfl) (by kernel_rfl) (by kernel_rfl) rfl rfl rfl (fl_move rfl) ?_
            refine WL_guard rfl rfl ?_
            refine WL_move rfl rfl ?_
            refine WL_nil ?_
            refine WA_takeG 6 rfl (by kernel_rfl) (by kernel_rfl) (by kernel_rfl) rfl rfl rfl (fl_gtr rfl rfl) ?_
            refine WL_guard rfl rfl ?_
            refine WL_gtr rfl rfl rfl ?_
            refine WL_nil ?_
            refine WA_takeG 7 rfl (by kernel_rfl) (by kernel_rfl) (by kernel_rfl) rfl rfl rfl (fl_move rfl) ?_
            refine WL_guard rfl rfl ?_
            refine WL_move rfl rfl ?_
            refine WL_nil ?_
            refine WA_fork (fun hc3 => ?_) (fun hc3 => ?_)
            · replace hr2 := ite_t hr2 hc3
              refine WA_takeG 8 rfl (by kernel_rfl) (by kernel_rfl) (by kernel_rfl) rfl rfl rfl (fl_move rfl) ?_
              refine WL_guard rfl rfl ?_
              refine WL_move rfl rfl ?_
              refine WL_nil ?_
              refine WA_takeG 9 rfl (by kernel_rfl) (by kernel_rfl) (by kernel_rfl) rfl rfl rfl (fl_move rfl) ?_
              refine WL_guard rfl rfl ?_
              refine WL_move rfl rfl ?_
              refine WL_nil ?_
              refine WA_takeG 10 rfl (by kernel_rfl) (by kernel_rfl) (by kernel_rfl) rfl rfl rfl (fl_sub rfl rfl) ?_
              refine WL_guard rfl rfl ?_
              refine WL_sub rfl rfl rfl ?_
              refine WL_nil ?_
              obtain ⟨x5, hx2, hr2⟩ := bind_some hr2
              refine WA_takeG 11 rfl (by kernel_rfl) (by kernel_rfl) (by kernel_rfl) rfl rfl rfl (fl_index Try.underlying100 ty165 g2 hx2 rfl rfl) ?_
              refine WL_guard rfl rfl ?_
              refine WL_index Try.underlying100 ty165 g2 hx2 rfl rfl rfl (fun b3 o2 h4 => ?_)
              refine WL_nil ?_
              refine WA.sub (l' := [(0, u1), (1, u2), (5, (.int .i64 x1)), (6, (ptr b2 0)), (7, u2), (8, (.int .i64 (List.length a2 : Int))), (9, (.int .i64 x1)), (10, (.bool (decide (x1 < (List.length a2 : Int))))), (11, (.int .i64 x1)), (12, (ptr b1 o1)), (13, (.agg #[(.int .i64 x2.1), v2])), (14, u1), (15, (.agg #[(.int .i64 x2.1), v2])), (16, (.bool x4)), (17, (.bool (!x4))), (18, (.bool false)), (19, (.int .i64 x1)), (20, (.bool (decide (0 < x1)))), (21, (.bool true)), (22, u2), (23, (.int .i64 x1)), (24, (.int .i64 (w64 (x1 - 1)))), (25, (ptr b3 o2))]) ?_ ⟨rfl, rfl, rfl, rfl, rfl, rfl, rfl, rfl, rfl, rfl, rfl, rfl, rfl, rfl, rfl, rfl, rfl, rfl, rfl, rfl, rfl, rfl, rfl, trivial⟩
              refine WA_postsE [⟨12, [], fun vs => PW.ro [] w0 x5, []⟩, ⟨13, [], fun vs => PW.val (.agg #[(.int .i64 x2.1), v2]), []⟩] [[], []] 4 rfl (by kernel_rfl) (by kernel_rfl) rfl ?_ ?_
              · refine StepsE_cons rfl ?_ ?_
                · intro w7 hB6
                  refine DepsE_nil ?_
                  refine ⟨_, rfl, ?_⟩
                  refine WL_guard rfl rfl ?_
                  refine WL_load ty165 h4 (hC6.keep.then hB6) rfl rfl (fun v5 h7 => ?_)
                  refine WL_nil ?_
                  exact FinE_val (Below.refl _ _) rfl rfl ⟨rfl, h7⟩
                refine StepsE_cons rfl ?_ ?_
                · intro w7 hB6
                  refine DepsE_nil ?_
                  refine ⟨_, rfl, ?_⟩
                  refine WL_guard rfl rfl ?_
                  refine WL_load_box_agg [(.int .i64 x2.1), v2] (hC6.grow hB6) 0 rfl rfl rfl Try.isAgg165 Try.sizeOf165 rfl rfl ?_
                  refine WL_nil ?_
                  exact FinE_val (Below.refl _ _) rfl rfl ⟨rfl, rfl⟩
                exact StepsE_nil
              · intro w8 hB7
                refine AllE_cons rfl rfl rfl ?_
                rintro v5 _ ⟨rfl, h7⟩
                obtain ⟨v4, rfl, h6⟩ := ro_st165 h7
                refine AllE_cons rfl rfl rfl ?_
                rintro _ _ ⟨rfl, rfl⟩
                refine AllE_nil ?_
                intro hn1 hb1
                have hC8 := hC6.grow hB7
                obtain ⟨x6, hr4, hr2⟩ := bind_some hr2
                refine WA_one 14 (by kernel_rfl) rfl ?_
                refine WL_guard rfl rfl ?_
                refine WL_call Try.call148 rfl rfl (c_M_CompareFacts x5 v4 (h6.now hC8.keep) (x2.1, x2.2) v2 (h3.now hC8.keep) x6 hr4) ?_
                intro _ w9 hv2
                obtain ⟨rfl, hB8⟩ := res_int hv2
                have hC9 := hC8.grow hB8
                refine WL_nil ?_
                refine WA_takeG 15 rfl (by kernel_rfl) (by kernel_rfl) (by kernel_rfl) rfl rfl rfl (fl_geq rfl rfl) ?_
                refine WL_guard rfl rfl ?_
                refine WL_geq rfl rfl rfl ?_
                refine WL_nil ?_
                refine WA_takeG 16 rfl (by kernel_rfl) (by kernel_rfl) (by kernel_rfl) rfl rfl rfl (fl_pick_t rfl rfl) ?_
                refine WL_guard rfl rfl ?_
                refine WL_pick_t rfl rfl rfl ?_
                refine WL_nil ?_
                refine WA_take 17 rfl (by kernel_rfl) (by kernel_rfl) (by kernel_rfl) rfl (fl_pick_f rfl rfl) ?_
                refine WL_pick_f rfl rfl rfl ?_
                refine WL_nil ?_
                refine WA_done (by kernel_rfl) ?_
                have hq2 := Option.some.inj hr2
                subst hq2
                have hC10 : Ctx [] w0 _ [] := hC9.headN 0
                refine nrm_sub (l' := [(0, u1), (1, u2), (7, u2), (8, (.int .i64 (List.length a2 : Int))), (9, (.int .i64 x1)), (31, (.bool (decide (0 ≤ x6))))]) ⟨rfl, rfl, rfl, rfl, rfl, rfl, trivial⟩ ?_
                exact ⟨(decide (0 ≤ x6)), rfl, rfl, ((((Keep.of hB4).then hB5).then hB7).then hB8).below, hC10⟩
            · replace hr2 := ite_f hr2 hc3
              refine WA_skip 8 rfl (by kernel_rfl) (by kernel_rfl) (by kernel_rfl) rfl rfl rfl (by simp) rfl rfl ?_
              refine WA_skip 9 rfl (by kernel_rfl) (by kernel_rfl) (by kernel_rfl) rfl rfl rfl (by simp) rfl rfl ?_
              refine WA_skip 10 rfl (by kernel_rfl) (by kernel_rfl) (by kernel_rfl) rfl rfl rfl (by simp) rfl rfl ?_
              refine WA_skip 11 rfl (by kernel_rfl) (by kernel_rfl) (by kernel_rfl) rfl rfl rfl (by simp) rfl rfl ?_
              refine WA_skip 12 rfl (by kernel_rfl) (by kernel_rfl) (by kernel_rfl) rfl rfl rfl (by simp) rfl rfl ?_
              refine WA_skip 13 rfl (by kernel_rfl) (by kernel_rfl) (by kernel_rfl) rfl rfl rfl (by simp) rfl rfl ?_
              refine WA_skip 14 rfl (by kernel_rfl) (by kernel_rfl) (by kernel_rfl) rfl rfl rfl (by simp) rfl rfl ?_
              refine WA_skip 15 rfl (by kernel_rfl) (by kernel_rfl) (by kernel_rfl) rfl rfl rfl (by simp) rfl rfl ?_
              refine WA_takeG 16 rfl (by kernel_rfl) (by kernel_rfl) (by kernel_rfl) rfl rfl rfl (fl_pick_f rfl rfl) ?_
              refine WL_guard rfl rfl ?_
              refine WL_pick_f rfl rfl rfl ?_
              refine WL_nil ?_
              refine WA_take 17 rfl (by kernel_rfl) (by kernel_rfl) (by kernel_rfl) rfl (fl_pick_f rfl rfl) ?_
              refine WL_pick_f rfl rfl rfl ?_
              refine WL_nil ?_
              refine WA_done (by kernel_rfl) ?_
              have hq3 := Option.some.inj hr2
              subst hq3
              have hC11 : Ctx [] w0 _ [] := hC6.headN 0
              refine nrm_sub (l' := [(0, u1), (1, u2), (7, u2), (8, (.int .i64 (List.length a2 : Int))), (9, (.int .i64 x1)), (31, (.bool false))]) ⟨rfl, rfl, rfl, rfl, rfl, rfl, trivial⟩ ?_
              exact ⟨false, rfl, rfl, ((Keep.of hB4).then hB5).below, hC11⟩
        · rintro _ w4 ⟨x3, rfl, rfl, hB3, hC4⟩
          try dsimp only at hL1
          refine W_cond rfl (fun hc4 => ?_) (fun hc4 => ?_)
          · replace hL1 := ite_t hL1 hc4
            refine W_seq_reg ?_
            refine WL_assign rfl rfl ?_
            refine WL_nil ?_
            refine W_ret ?_
            refine blk_ret ?_
            refine nrm_ret ?_
            refine nrm_ret ?_
            refine blk_ret ?_
            refine nrm_ret ?_
            refine nrm_ret ?_
            have hq4 := Option.some.inj hL1
            subst hq4
            dsimp only at hF
            have hq5 := Option.some.inj hF
            subst hq5
            refine fn_ret1 rfl rfl ?_
            exact ⟨_, rfl, bool_res hC4 _⟩
          · replace hL1 := ite_f hL1 hc4
            refine W_skip ?_
            refine blk_normal ?_
            refine nrm_normal ?_
            refine W_reg ?_
            refine WL_add rfl rfl rfl ?_
            refine WL_move rfl rfl ?_
            refine WL_nil ?_
            refine nrm_sub (l' := [(0, u1), (1, u2), (7, u2), (8, (.int .i64 (List.length a2 : Int))), (9, (.int .i64 (w64 (x1 + 1))))]) ⟨rfl, rfl, rfl, rfl, rfl, trivial⟩ ?_
            exact ⟨k1, Nat.lt_succ_self _, w64 (x1 + 1), rfl, hC4, hL1⟩
      · replace hL1 := ite_f hL1 hc1
        refine W_exit ?_
        refine nrm_exit ?_
        refine nrm_exit ?_
        refine blk_exit ?_
        have hq6 := Option.some.inj hL1
        subst hq6
        refine nrm_sub (l' := [(0, u1), (1, u2)]) ⟨rfl, rfl, trivial⟩ ?_
        exact ⟨rfl, rfl, hC1⟩
  · rintro l3 _ w10 hs3 ⟨rfl, rfl, hC12⟩
    try dsimp only at hF
    refine nrm_sub' hs3 ?_
    clear hs3
    obtain ⟨r3, hr5, hF⟩ := bind_some hF
    refine W_cut (fun l w => ∃ x7 : Bool, x7 = r3 ∧ l = [(4, (.bool x7))] ∧ Below w10.heap.size w10 w ∧ Ctx [] w0 w []) ?_ ?_
    · refine W_reg ?_
      refine WL_move rfl rfl ?_
      obtain ⟨x8, hr6, hr5⟩ := bind_some hr5
      refine WL_call Try.call149 rfl rfl (c_M_IsSchema a1 u1 (g1.now hC12.keep) x8 hr6) ?_
      intro _ w12 hv3
      obtain ⟨rfl, hB11⟩ := res_bool hv3
      have hC14 := hC12.grow hB11
      refine WL_move rfl rfl ?_
      refine WL_fork (fun hc5 => ?_) (fun hc5 => ?_)
      · replace hr5 := ite_t hr5 hc5
        refine WL_guard rfl rfl ?_
        refine WL_move rfl rfl ?_
        refine WL_guard rfl rfl ?_
        refine WL_len Try.underlying100 g2 rfl rfl ?_
        refine WL_guard rfl rfl ?_
        refine WL_leq rfl rfl rfl ?_
        refine WL_pick_t rfl rfl rfl ?_
        refine WL_assign rfl rfl ?_
        refine WL_nil ?_
        have hq7 := Option.some.inj hr5
        subst hq7
        refine nrm_sub (l' := [(4, (.bool (decide ((List.length a2 : Int) ≤ 24))))]) ⟨rfl, trivial⟩ ?_
        exact ⟨(decide ((List.length a2 : Int) ≤ 24)), rfl, rfl, (Keep.of hB11).below, hC14⟩
      · replace hr5 := ite_f hr5 hc5
        refine WL_guard_skip rfl rfl (by simp) rfl ?_
        refine WL_guard_skip rfl rfl (by simp) rfl ?_
        refine WL_guard_skip rfl rfl (by simp) rfl ?_
        refine WL_pick_f rfl rfl rfl ?_
        refine WL_assign rfl rfl ?_
        refine WL_nil ?_
        have hq8 := Option.some.inj hr5
        subst hq8
        refine nrm_sub (l' := [(4, (.bool false))]) ⟨rfl, trivial⟩ ?_
        exact ⟨false, rfl, rfl, (Keep.of hB11).below, hC14⟩
    · rintro _ w11 ⟨x7, rfl, rfl, hB10, hC13⟩
      try dsimp only at hF
      refine W_ret ?_
      have hq9 := Option.some.inj hF
      subst hq9
      refine fn_ret1 rfl rfl ?_
      exact ⟨_, rfl, bool_res hC13 _⟩

theorem c_M_IsSource {w0 : World} (a1 : (List Int)) (u1 : Value) (g1 : RO [] w0 u1 a1) (a2 : ((List (Int × (List Int))) × Int)) (u2 : Value) (g2 : RO [] w0 u2 a2.1) (rr : Bool) (hF : M.IsSource a1 a2 = some rr) :
    Calls Try.prog 67 [u1, (.agg #[u2, (.int .i64 a2.2)])].toArray w0 fun e w' => ∃ v, e = .returned v ∧ Res w0 rr v w' := by
  refine calls_of_W Try.func67 rfl rfl ?_
  have hC0 := Ctx.start w0
  unfold M.IsSource at hF
  refine W_seq_reg ?_
  refine WL_box (cs := [u2, (.int .i64 a2.2)]) hC0 rfl rfl rfl (fun b1 w1 hC1 hB1 => ?_)
  refine WL_assign rfl rfl ?_
  refine WL_nil ?_
  obtain ⟨r1, hr1, hF⟩ := bind_some hF
  refine W_cut (fun l w => ∃ x1 : Bool, x1 = r1 ∧ l = [(4, (.bool x1))] ∧ Below w1.heap.size w1 w ∧ Ctx [] w0 w []) ?_ ?_
  · refine W_reg ?_
    refine WL_move rfl rfl ?_
    refine WL_field Try.underlying102 rfl rfl (fun w => ⟨_, Try.sizeOf100 w⟩) rfl rfl ?_
    refine WL_load_box hC1 0 rfl rfl Try.isAgg100 rfl rfl ?_
    obtain ⟨x2, hr2, hr1⟩ := bind_some hr1
    refine WL_call Try.call120 rfl rfl (c_M_AreFacts a1 u1 (g1.now hC1.keep) a2.1 u2 (g2.now hC1.keep) x2 hr2) ?_
    intro _ w3 hv1
    obtain ⟨rfl, hB3⟩ := res_bool hv1
    have hC3 := hC1.grow hB3
    refine WL_move rfl rfl ?_
    refine WL_fork (fun hc1 => ?_) (fun hc1 => ?_)
    · replace hr1 := ite_t hr1 hc1
      refine WL_guard rfl rfl ?_
      refine WL_field Try.underlying102 rfl rfl (fun w => ⟨_, Try.sizeOf3 w⟩) rfl rfl ?_
      refine WL_guard rfl rfl ?_
      refine WL_load_box hC3 0 rfl rfl Try.isAgg3 rfl rfl ?_
      obtain ⟨x3, hr3, hr1⟩ := bind_some hr1
      refine WL_guard rfl rfl ?_
      refine WL_call Try.call97 rfl rfl (c_M_within a2.2 0 1000 x3 hr3) ?_
      intro _ w4 hv2
      obtain ⟨rfl, hB4⟩ := res_bool hv2
      have hC4 := hC3.grow hB4
      refine WL_pick_t rfl rfl rfl ?_
      refine WL_assign rfl rfl ?_
      refine WL_nil ?_
      have hq1 := Option.some.inj hr1
      subst hq1
      have hC5 : Ctx [] w0 _ [] := hC4.headN 0
      refine nrm_sub (l' := [(4, (.bool x3))]) ⟨rfl, trivial⟩ ?_
      exact ⟨x3, rfl, rfl, ((Keep.of hB3).then hB4).below, hC5⟩
    · replace hr1 := ite_f hr1 hc1
      refine WL_guard_skip rfl rfl (by simp) rfl ?_
      refine WL_guard_skip rfl rfl (by simp) rfl ?_
      refine WL_guard_skip rfl rfl (by simp) rfl ?_
      refine WL_pick_f rfl rfl rfl ?_
      refine WL_assign rfl rfl ?_
      refine WL_nil ?_
      have hq2 := Option.some.inj hr1
      subst hq2
      have hC6 : Ctx [] w0 _ [] := hC3.headN 0
      refine nrm_sub (l' := [(4, (.bool false))]) ⟨rfl, trivial⟩ ?_
      exact ⟨false, rfl, rfl, (Keep.of hB3).below, hC6⟩
  · rintro _ w2 ⟨x1, rfl, rfl, hB2, hC2⟩
    try dsimp only at hF
    refine W_ret ?_
    have hq3 := Option.some.inj hF
    subst hq3
    refine fn_ret1 rfl rfl ?_
    exact ⟨_, rfl, bool_res hC2 _⟩

theorem c_Q_eqSource {w0 : World} (a1 : ((List (Int × (List Int))) × Int)) (u1 : Value) (g1 : RO [] w0 u1 a1.1) (a2 : ((List (Int × (List Int))) × Int)) (u2 : Value) (g2 : RO [] w0 u2 a2.1) (rr : Bool) (hF : Q.eqSource a1 a2 = some rr) :
    Calls Try.prog 68 [(.agg #[u1, (.int .i64 a1.2)]), (.agg #[u2, (.int .i64 a2.2)])].toArray w0 fun e w' => ∃ v, e = .returned v ∧ Res w0 rr v w' := by
  refine calls_of_W Try.func68 rfl rfl ?_
  have hC0 := Ctx.start w0
  unfold Q.eqSource at hF
  refine W_seq_reg ?_
  refine WL_box (cs := [u1, (.int .i64 a1.2)]) hC0 rfl rfl rfl (fun b1 w1 hC1 hB1 => ?_)
  refine WL_box (cs := [u2, (.int .i64 a2.2)]) hC1 rfl rfl rfl (fun b2 w2 hC2 hB2 => ?_)
  refine WL_assign rfl rfl ?_
  refine WL_nil ?_
  refine W_seq ?_
  refine W_seq_reg ?_
  refine WL_field Try.underlying102 rfl rfl (fun w => ⟨_, Try.sizeOf100 w⟩) rfl rfl ?_
  refine WL_load_box hC2 1 rfl rfl Try.isAgg100 rfl rfl ?_
  refine WL_field Try.underlying102 rfl rfl (fun w => ⟨_, Try.sizeOf100 w⟩) rfl rfl ?_
  refine WL_load_box hC2 0 rfl rfl Try.isAgg100 rfl rfl ?_
  obtain ⟨x1, hr1, hF⟩ := bind_some hF
  refine WL_call Try.call85 rfl rfl (c_Q_eqFactS a1.1 u1 (g1.now hC2.keep) a2.1 u2 (g2.now hC2.keep) x1 hr1) ?_
  intro _ w3 hv1
  obtain ⟨rfl, hB3⟩ := res_bool hv1
  have hC3 := hC2.grow hB3
  refine WL_not rfl rfl ?_
  refine WL_nil ?_
  refine W_cond rfl (fun hc1 => ?_) (fun hc1 => ?_)
  · replace hF := ite_t hF hc1
    refine W_seq_reg ?_
    refine WL_assign rfl rfl ?_
    refine WL_nil ?_
    refine W_ret ?_
    refine nrm_ret ?_
    have hq1 := Option.some.inj hF
    subst hq1
    refine fn_ret1 rfl rfl ?_
    exact ⟨_, rfl, bool_res hC3 _⟩
  · replace hF := ite_f hF hc1
    refine W_skip ?_
    refine nrm_normal ?_
    refine W_seq ?_
    refine W_seq_reg ?_
    refine WL_field Try.underlying102 rfl rfl (fun w => ⟨_, Try.sizeOf3 w⟩) rfl rfl ?_
    refine WL_load_box hC3 1 rfl rfl Try.isAgg3 rfl rfl ?_
    refine WL_field Try.underlying102 rfl rfl (fun w => ⟨_, Try.sizeOf3 w⟩) rfl rfl ?_
    refine WL_load_box hC3 0 rfl rfl Try.isAgg3 rfl rfl ?_
    refine WL_neq rfl rfl rfl ?_
    refine WL_nil ?_
    refine W_cond rfl (fun hc2 => ?_) (fun hc2 => ?_)
    · replace hF := ite_t hF hc2
      refine W_seq_reg ?_
      refine WL_assign rfl rfl ?_
      refine WL_nil ?_
      refine W_ret ?_
      refine nrm_ret ?_
      have hq2 := Option.some.inj hF
      subst hq2
      refine fn_ret1 rfl rfl ?_
      exact ⟨_, rfl, bool_res hC3 _⟩
    · replace hF := ite_f hF hc2
      refine W_skip ?_
      refine nrm_normal ?_
      refine W_seq_reg ?_
      refine WL_assign rfl rfl ?_
      refine WL_nil ?_
      refine W_ret ?_
      have hq3 := Option.some.inj hF
      subst hq3
      refine fn_ret1 rfl rfl ?_
      exact ⟨_, rfl, bool_res hC3 _⟩

theorem c_Q_FnExactIsSource {w0 : World} (a1 : (List Int)) (u1 : Value) (g1 : RO [] w0 u1 a1) (a2 : ((List (Int × (List Int))) × Int)) (u2 : Value) (g2 : RO [] w0 u2 a2.1) (rr : Bool) (hF : Q.FnExactIsSource a1 a2 = some rr) :
    Calls Try.prog 11 [u1, (.agg #[u2, (.int .i64 a2.2)])].toArray w0 fun e w' => ∃ v, e = .returned v ∧ Res w0 rr v w' := by
  refine calls_of_W Try.func11 rfl rfl ?_
  have hC0 := Ctx.start w0
  unfold Q.FnExactIsSource at hF
  refine W_seq_reg ?_
  refine WL_box (cs := [u2, (.int .i64 a2.2)]) hC0 rfl rfl rfl (fun b1 w1 hC1 hB1 => ?_)
  refine WL_assign rfl rfl ?_
  refine WL_nil ?_
  refine W_seq ?_
  refine W_seq_reg ?_
  refine WL_move rfl rfl ?_
  refine WL_len Try.underlying22 g1 rfl rfl ?_
  refine WL_gtr rfl rfl rfl ?_
  refine WL_nil ?_
  refine W_cond rfl (fun hc1 => ?_) (fun hc1 => ?_)
  · replace hF := ite_t hF hc1
    refine W_seq_reg ?_
    refine WL_assign rfl rfl ?_
    refine WL_nil ?_
    refine W_ret ?_
    refine nrm_ret ?_
    have hq1 := Option.some.inj hF
    subst hq1
    refine fn_ret1 rfl rfl ?_
    exact ⟨_, rfl, bool_res hC1 _⟩
  · replace hF := ite_f hF hc1
    refine W_skip ?_
    refine nrm_normal ?_
    refine W_seq_reg ?_
    refine WL_assign rfl rfl ?_
    refine WL_nil ?_
    refine W_seq_reg ?_
    refine WL_load_box_agg [u2, (.int .i64 a2.2)] hC1 0 rfl rfl rfl Try.isAgg97 Try.sizeOf97 rfl rfl ?_
    refine WL_move rfl rfl ?_
    obtain ⟨x1, hr1, hF⟩ := bind_some hF
    refine WL_call Try.call64 rfl rfl (c_Q_szSource (a2.1, a2.2) u2 (g2.now hC1.keep) 1048576 x1 hr1) ?_
    intro _ w2 hv1
    obtain ⟨rfl, hB2⟩ := res_int hv1
    have hC2 := hC1.grow hB2
    refine WL_assign rfl rfl ?_
    refine WL_nil ?_
    refine W_seq ?_
    refine W_seq_reg ?_
    refine WL_move rfl rfl ?_
    refine WL_lss rfl rfl rfl ?_
    refine WL_nil ?_
    refine W_cond rfl (fun hc2 => ?_) (fun hc2 => ?_)
    · replace hF := ite_t hF hc2
      refine W_seq_reg ?_
      refine WL_assign rfl rfl ?_
      refine WL_nil ?_
      refine W_ret ?_
      refine nrm_ret ?_
      have hq2 := Option.some.inj hF
      subst hq2
      refine fn_ret1 rfl rfl ?_
      exact ⟨_, rfl, bool_res hC2 _⟩
    · replace hF := ite_f hF hc2
      refine W_skip ?_
      refine nrm_normal ?_
      refine W_seq ?_
      refine W_drawn 6 rfl hmix (fun w3 hB3 => ?_)
      have hC3 := hC2.grow hB3
      refine WA_take 0 rfl (by kernel_rfl) (by kernel_rfl) (by kernel_rfl) rfl (fl_move rfl) ?_
      refine WL_move rfl rfl ?_
      refine WL_nil ?_
      obtain ⟨x2, hr2, hF⟩ := bind_some hF
      refine WA.sub (l' := [(0, u1), (1, (.agg #[u2, (.int .i64 a2.2)])), (3, (ptr b1 0)), (4, (.bool false)), (5, (.int .i64 x1)), (10, u1), (11, (.int .i64 (List.length a1 : Int))), (12, (.bool (decide (1048576 < (List.length a1 : Int))))), (13, (.agg #[u2, (.int .i64 a2.2)])), (14, (.int .i64 1048576)), (15, (.int .i64 x1)), (16, (.int .i64 x1)), (17, (.bool (decide (x1 < 0)))), (18, u1)]) ?_ ⟨rfl, rfl, rfl, rfl, rfl, rfl, rfl, rfl, rfl, rfl, rfl, rfl, rfl, rfl, trivial⟩
      refine WA_postsE [⟨1, [], fun vs => PW.own x2, []⟩, ⟨2, [], fun vs => PW.val (.agg #[u2, (.int .i64 a2.2)]), []⟩] [[], []] 3 rfl (by kernel_rfl) (by kernel_rfl) rfl ?_ ?_
      · refine StepsE_cons rfl ?_ ?_
        · intro w5 hB5
          refine DepsE_nil ?_
          refine ⟨_, rfl, ?_⟩
          refine WL_call Try.call37 rfl rfl (c_Q_toIntS a1 u1 (g1.now (hC3.keep.then hB5)) x2 hr2) ?_
          rintro v1 w4 ⟨hB4, F1, hv2, hn1, hb1⟩
          refine WL_nil ?_
          exact FinE_own hB4 rfl rfl hv2 hn1 hb1 (Val.inh hv2)
        refine StepsE_cons rfl ?_ ?_
        · intro w5 hB5
          refine DepsE_nil ?_
          refine ⟨_, rfl, ?_⟩
          refine WL_load_box_agg [u2, (.int .i64 a2.2)] (hC3.grow hB5) 0 rfl rfl rfl Try.isAgg97 Try.sizeOf97 rfl rfl ?_
          refine WL_nil ?_
          exact FinE_val (Below.refl _ _) rfl rfl ⟨rfl, rfl⟩
        exact StepsE_nil
      · intro w6 hB6
        refine AllE_cons rfl rfl rfl ?_
        intro v1 F1 hv2
        refine AllE_cons rfl rfl rfl ?_
        rintro _ _ ⟨rfl, rfl⟩
        refine AllE_nil ?_
        intro hn2 hb2
        have hC4 := hC3.pushL hB6 (Bs := [Item.own v1 (x2 : (List Int))]) (Fs := [F1]) ⟨F1, _, rfl, hv2, rfl⟩ (by simpa using hn2) (fun b h => (hb2 b (by simpa using h)).1)
        obtain ⟨x3, hr3, hF⟩ := bind_some hF
        refine WA_one 3 (by kernel_rfl) rfl ?_
        refine WL_call Try.call66 rfl rfl (c_Q_toSource (a2.1, a2.2) u2 (g2.now hC4.keep) x3 hr3) ?_
        rintro v2 w7 ⟨hB7, F2, hv3, hn3, hb3⟩
        have hC5 := hC4.push hB7 (A := Item.own v2 x3) hv3 hn3 hb3
        obtain ⟨v3, rfl, hC6⟩ := st102_own hC5
        refine WL_nil ?_
        obtain ⟨x4, hr4, hF⟩ := bind_some hF
        refine WA_one 4 (by kernel_rfl) rfl ?_
        refine WL_call Try.call65 rfl rfl (c_S_IsSource x2 v1 ((hC6.ro 1 rfl).now (Keep.refl _ _)) x3 v3 ((hC6.ro 0 rfl).now (Keep.refl _ _)) x4 hr4) ?_
        intro _ w8 hv4
        obtain ⟨rfl, hB8⟩ := res_bool hv4
        have hC7 := hC6.grow hB8
        refine WL_nil ?_
        refine WA_take 5 rfl (by kernel_rfl) (by kernel_rfl) (by kernel_rfl) rfl (fl_assign rfl) ?_
        refine WL_assign rfl rfl ?_
        refine WL_nil ?_
        refine WA_done (by kernel_rfl) ?_
        refine nrm_normal ?_
        refine W_seq_reg ?_
        refine WL_move rfl rfl ?_
        obtain ⟨x5, hr5, hF⟩ := bind_some hF
        refine WL_call Try.call37 rfl rfl (c_Q_toIntS a1 u1 (g1.now hC7.keep) x5 hr5) ?_
        rintro v4 w9 ⟨hB9, F3, hv5, hn4, hb4⟩
        have hC8 := hC7.push hB9 (A := Item.own v4 x5) hv5 hn4 hb4
        refine WL_assign rfl rfl ?_
        refine WL_nil ?_
        refine W_seq_reg ?_
        refine WL_load_box_agg [u2, (.int .i64 a2.2)] hC8 3 rfl rfl rfl Try.isAgg97 Try.sizeOf97 rfl rfl ?_
        obtain ⟨x6, hr6, hF⟩ := bind_some hF
        refine WL_call Try.call66 rfl rfl (c_Q_toSource (a2.1, a2.2) u2 (g2.now hC8.keep) x6 hr6) ?_
        rintro v5 w10 ⟨hB10, F4, hv6, hn5, hb5⟩
        have hC9 := hC8.push hB10 (A := Item.own v5 x6) hv6 hn5 hb5
        obtain ⟨v6, rfl, hC10⟩ := st102_own hC9
        refine WL_alloc hC10 zero102 rfl rfl (fun b2 w11 hC11 hB11 => ?_)
        refine WL_store_box_agg (cs' := [v6, (.int .i64 x6.2)]) (new := [v6, (.int .i64 x6.2)]) hC11 0 rfl rfl (by intro v hv; simp only [List.mem_cons, List.not_mem_nil, or_false] at hv; rcases hv with rfl | rfl; exact (ro_one (hC11.ro 1 rfl)); exact rfl) rfl Try.sizeOf102 rfl rfl (fun w12 hC12 => ?_)
        try dsimp only [List.set] at hC12
        refine WL_nil ?_
        refine W_seq_reg ?_
        refine WL_move rfl rfl ?_
        refine WL_load_box_agg [v6, (.int .i64 x6.2)] hC12 0 rfl rfl rfl Try.isAgg102 Try.sizeOf102 rfl rfl ?_
        obtain ⟨x7, hr7, hF⟩ := bind_some hF
        refine WL_call Try.call67 rfl rfl (c_M_IsSource x5 v4 ((hC12.ro 2 rfl).now (Keep.refl _ _)) (x6.1, x6.2) v6 ((hC12.ro 1 rfl).now (Keep.refl _ _)) x7 hr7) ?_
        intro _ w13 hv7
        obtain ⟨rfl, hB12⟩ := res_bool hv7
        have hC13 := hC12.grow hB12
        refine WL_assign rfl rfl ?_
        refine WL_nil ?_
        refine W_seq ?_
        refine W_seq_reg ?_
        refine WL_move rfl rfl ?_
        refine WL_move rfl rfl ?_
        refine WL_bool_neq Try.underlying4 rfl rfl rfl ?_
        refine WL_nil ?_
        refine W_cond rfl (fun hc3 => ?_) (fun hc3 => ?_)
        · replace hF := ite_t hF hc3
          refine W_seq_reg ?_
          refine WL_assign rfl rfl ?_
          refine WL_nil ?_
          refine W_ret ?_
          refine nrm_ret ?_
          have hq3 := Option.some.inj hF
          subst hq3
          refine fn_ret1 rfl rfl ?_
          exact ⟨_, rfl, bool_res hC13 _⟩
        · replace hF := ite_f hF hc3
          refine W_skip ?_
          refine nrm_normal ?_
          refine W_seq ?_
          refine W_seq_reg ?_
          refine WL_move rfl rfl ?_
          refine WL_move rfl rfl ?_
          obtain ⟨x8, hr8, hF⟩ := bind_some hF
          refine WL_call Try.call37 rfl rfl (c_Q_toIntS a1 u1 (g1.now hC13.keep) x8 hr8) ?_
          rintro v7 w14 ⟨hB13, F5, hv8, hn6, hb6⟩
          have hC14 := hC13.push hB13 (A := Item.own v7 x8) hv8 hn6 hb6
          obtain ⟨x9, hr9, hF⟩ := bind_some hF
          refine WL_call Try.call39 rfl rfl (c_Q_eqIntS x5 v4 ((hC14.ro 3 rfl).now (Keep.refl _ _)) x8 v7 ((hC14.ro 0 rfl).now (Keep.refl _ _)) x9 hr9) ?_
          intro _ w15 hv9
          obtain ⟨rfl, hB14⟩ := res_bool hv9
          have hC15 := hC14.grow hB14
          refine WL_not rfl rfl ?_
          refine WL_nil ?_
          refine W_cond rfl (fun hc4 => ?_) (fun hc4 => ?_)
          · replace hF := ite_t hF hc4
            refine W_seq_reg ?_
            refine WL_assign rfl rfl ?_
            refine WL_nil ?_
            refine W_ret ?_
            refine nrm_ret ?_
            have hq4 := Option.some.inj hF
            subst hq4
            refine fn_ret1 rfl rfl ?_
            exact ⟨_, rfl, bool_res hC15 _⟩
          · replace hF := ite_f hF hc4
            refine W_skip ?_
            refine nrm_normal ?_
            refine W_seq ?_
            refine W_seq ?_
            refine W_drawn 5 rfl hmix (fun w16 hB15 => ?_)
            have hC16 := hC15.grow hB15
            obtain ⟨x10, hr10, hF⟩ := bind_some hF
            refine WA.sub (l' := [(0, u1), (1, (.agg #[u2, (.int .i64 a2.2)])), (3, (ptr b1 0)), (4, (.bool false)), (5, (.int .i64 x1)), (6, (.bool x4)), (7, v4), (8, (ptr b2 0)), (9, (.bool x7)), (10, u1), (11, (.int .i64 (List.length a1 : Int))), (12, (.bool (decide (1048576 < (List.length a1 : Int))))), (13, (.agg #[u2, (.int .i64 a2.2)])), (14, (.int .i64 1048576)), (15, (.int .i64 x1)), (16, (.int .i64 x1)), (17, (.bool (decide (x1 < 0)))), (18, u1), (19, v1), (20, (.agg #[u2, (.int .i64 a2.2)])), (21, (.agg #[v3, (.int .i64 x3.2)])), (22, (.bool x4)), (23, u1), (24, v4), (25, (.agg #[u2, (.int .i64 a2.2)])), (26, (.agg #[v6, (.int .i64 x6.2)])), (27, v4), (28, (.agg #[v6, (.int .i64 x6.2)])), (29, (.bool x7)), (30, (.bool x7)), (31, (.bool x4)), (32, (.bool (!decide (x7 = x4)))), (33, v4), (34, u1), (35, v7), (36, (.bool x9)), (37, (.bool (!x9)))]) ?_ ⟨rfl, rfl, rfl, rfl, rfl, rfl, rfl, rfl, rfl, rfl, rfl, rfl, rfl, rfl, rfl, rfl, rfl, rfl, rfl, rfl, rfl, rfl, rfl, rfl, rfl, rfl, rfl, rfl, rfl, rfl, rfl, rfl, rfl, rfl, rfl, rfl, rfl, trivial⟩
            refine WA_postsE [⟨0, [], fun vs => PW.val (.agg #[v6, (.int .i64 x6.2)]), []⟩, ⟨1, [], fun vs => PW.val (.agg #[u2, (.int .i64 a2.2)]), []⟩, ⟨2, [], fun vs => PW.own x10, []⟩] [[], [], [1]] 2 rfl (by kernel_rfl) (by kernel_rfl) rfl ?_ ?_
            · refine StepsE_cons rfl ?_ ?_
              · intro w18 hB17
                refine DepsE_nil ?_
                refine ⟨_, rfl, ?_⟩
                refine WL_load_box_agg [v6, (.int .i64 x6.2)] (hC16.grow hB17) 1 rfl rfl rfl Try.isAgg102 Try.sizeOf102 rfl rfl ?_
                refine WL_nil ?_
                exact FinE_val (Below.refl _ _) rfl rfl ⟨rfl, rfl⟩
              refine StepsE_cons rfl ?_ ?_
              · intro w18 hB17
                refine DepsE_nil ?_
                refine ⟨_, rfl, ?_⟩
                refine WL_load_box_agg [u2, (.int .i64 a2.2)] (hC16.grow hB17) 6 rfl rfl rfl Try.isAgg97 Try.sizeOf97 rfl rfl ?_
                refine WL_nil ?_
                exact FinE_val (Below.refl _ _) rfl rfl ⟨rfl, rfl⟩
              refine StepsE_cons rfl ?_ ?_
              · intro w18 hB17
                refine DepsE_cons rfl rfl rfl ?_
                rintro _ _ ⟨rfl, rfl⟩ _
                refine DepsE_nil ?_
                refine ⟨_, rfl, ?_⟩
                refine WL_call Try.call66 rfl rfl (c_Q_toSource (a2.1, a2.2) u2 (g2.now (hC16.keep.then hB17)) x10 hr10) ?_
                rintro v8 w17 ⟨hB16, F6, hv10, hn7, hb7⟩
                refine WL_nil ?_
                exact FinE_own hB16 rfl rfl hv10 hn7 hb7 (Val.inh hv10)
              exact StepsE_nil
            · intro w19 hB18
              refine AllE_cons rfl rfl rfl ?_
              rintro _ _ ⟨rfl, rfl⟩
              refine AllE_cons rfl rfl rfl ?_
              rintro _ _ ⟨rfl, rfl⟩
              refine AllE_cons rfl rfl rfl ?_
              intro v8 F6 hv10
              refine AllE_nil ?_
              intro hn8 hb8
              have hC17 := hC16.pushL hB18 (Bs := [Item.own v8 (x10 : ((List (Int × (List Int))) × Int))]) (Fs := [F6]) ⟨F6, _, rfl, hv10, rfl⟩ (by simpa using hn8) (fun b h => (hb8 b (by simpa using h)).1)
              obtain ⟨v10, rfl, hC18⟩ := st102_own hC17
              obtain ⟨x11, hr11, hF⟩ := bind_some hF
              refine WA_one 3 (by kernel_rfl) rfl ?_
              refine WL_call Try.call68 rfl rfl (c_Q_eqSource (x6.1, x6.2) v6 ((hC18.ro 3 rfl).now (Keep.refl _ _)) x10 v10 ((hC18.ro 0 rfl).now (Keep.refl _ _)) x11 hr11) ?_
              intro _ w20 hv11
              obtain ⟨rfl, hB19⟩ := res_bool hv11
              have hC19 := hC18.grow hB19
              refine WL_nil ?_
              refine WA_take 4 rfl (by kernel_rfl) (by kernel_rfl) (by kernel_rfl) rfl (fl_not rfl) ?_
              refine WL_not rfl rfl ?_
              refine WL_nil ?_
              refine WA_done (by kernel_rfl) ?_
              refine nrm_normal ?_
              refine W_cond rfl (fun hc5 => ?_) (fun hc5 => ?_)
              · replace hF := ite_t hF hc5
                refine W_seq_reg ?_
                refine WL_assign rfl rfl ?_
                refine WL_nil ?_
                refine W_ret ?_
                refine nrm_ret ?_
                have hq5 := Option.some.inj hF
                subst hq5
                refine fn_ret1 rfl rfl ?_
                exact ⟨_, rfl, bool_res hC19 _⟩
              · replace hF := ite_f hF hc5
                refine W_skip ?_
                refine nrm_normal ?_
                refine W_seq_reg ?_
                refine WL_assign rfl rfl ?_
                refine WL_nil ?_
                refine W_ret ?_
                have hq6 := Option.some.inj hF
                subst hq6
                refine fn_ret1 rfl rfl ?_
                exact ⟨_, rfl, bool_res hC19 _⟩

end Go.Gx.Px
