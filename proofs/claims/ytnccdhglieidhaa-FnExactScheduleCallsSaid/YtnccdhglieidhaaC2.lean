/- The contracts of the Go functions against the pure functions, printed by program. Conditions: each says them. -/
import Derived.Test.YtnccdhglieidhaaC1
set_option linter.unusedVariables false
set_option linter.unusedSimpArgs false
set_option maxRecDepth 100000
namespace Go.Gx.Px
open Go.Proofs Go.RowKit

theorem c_M_copyFacts {w0 : World} (a1 : (List (Int × (List Int)))) (u1 : Value) (g1 : RO [] w0 u1 a1) (rr : (List (Int × (List Int)))) (hF : M.copyFacts a1 = some rr) :
    Calls Try.prog 91 [u1].toArray w0 fun e w' => ∃ v, e = .returned v ∧ Res w0 rr v w' := by
  refine calls_of_W Try.func91 rfl rfl ?_
  have hC0 := Ctx.start w0
  unfold M.copyFacts at hF
  refine W_seq_reg ?_
  refine WL_assign rfl rfl ?_
  refine WL_nil ?_
  refine W_seq_reg ?_
  refine WL_buildSlice (vs := []) hC0 Try.underlying51 ty108 rfl rfl rfl rfl (by simp) rfl rfl (fun b1 w1 hC1 hB1 => ?_)
  have hC2 := hC1.row0 (α := (Int × (List Int)))
  have hC3 := hC2.front 1 rfl
  dsimp only [List.eraseIdx] at hC3
  have hC4 : Ctx [] w0 w1 (Item.own (.slice (some ⟨b1, 0, none⟩) 0 0) (([] : List (Int × (List Int))) : List (Int × (List Int))) :: []) := hC3.rowOwn (by simp [maxLen])
  refine WL_assign rfl rfl ?_
  refine WL_nil ?_
  refine W_seq ?_
  refine W_seq_reg ?_
  refine WL_move rfl rfl ?_
  refine WL_len Try.underlying51 g1 rfl rfl ?_
  refine WL_move rfl rfl ?_
  refine WL_nil ?_
  obtain ⟨r1, hr1, hF⟩ := bind_some hF
  refine W_norm (fun l w => ∃ v2 : Value, ∃ x3 : (List (Int × (List Int))), x3 = r1 ∧ l = [(3, v2)] ∧ Ctx [] w0 w [Item.own v2 (x3 : (List (Int × (List Int))))]) ?_ ?_
  · refine W_block ?_
    refine W.sub (l' := [(3, (.slice (some ⟨b1, 0, none⟩) 0 0)), (7, u1), (8, (.int .i64 (List.length a1 : Int))), (9, (.int .i64 0))]) ?_ ⟨rfl, rfl, rfl, rfl, trivial⟩
    refine W_loop (fun k l w => ∃ v1 : Value, ∃ x1 : (List (Int × (List Int))), ∃ x2 : Int, l = [(3, v1), (7, u1), (8, (.int .i64 (List.length a1 : Int))), (9, (.int .i64 x2))] ∧ Ctx [] w0 w [Item.own v1 (x1 : (List (Int × (List Int))))] ∧ M.copyFacts_l1 a1 k x1 x2 = some r1) FUEL ⟨(.slice (some ⟨b1, 0, none⟩) 0 0), ([] : List (Int × (List Int))), 0, rfl, hC4, hr1⟩ ?_
    clear hr1
    rintro k1 _ w2 ⟨v1, x1, x2, rfl, hC5, hL1⟩
    cases k1 with
    | zero => rw [M.copyFacts_l1] at hL1; cases hL1
    | succ k1 =>
      rw [M.copyFacts_l1] at hL1
      refine W_seq_reg ?_
      refine WL_lss rfl rfl rfl ?_
      refine WL_nil ?_
      refine W_seq ?_
      refine W_cond rfl (fun hc1 => ?_) (fun hc1 => ?_)
      · replace hL1 := ite_t hL1 hc1
        refine W_skip ?_
        refine nrm_normal ?_
        refine W_seq ?_
        refine W_block ?_
        refine W_seq_reg ?_
        obtain ⟨x4, hx1, hL1⟩ := bind_some hL1
        refine WL_index Try.underlying51 ty108 g1 hx1 rfl rfl rfl (fun b2 o1 h1 => ?_)
        refine WL_load ty108 h1 hC5.keep rfl rfl (fun v3 h2 => ?_)
        obtain ⟨v4, rfl, h3⟩ := ro_st108 h2
        refine WL_alloc hC5 zero108 rfl rfl (fun b3 w3 hC6 hB3 => ?_)
        refine WL_store_box_agg (cs' := [(.int .i64 x4.1), v4]) (new := [(.int .i64 x4.1), v4]) hC6 0 rfl rfl (by intro v hv; simp only [List.mem_cons, List.not_mem_nil, or_false] at hv; rcases hv with rfl | rfl; exact rfl; exact (ro_one h3)) rfl Try.sizeOf108 rfl rfl (fun w4 hC7 => ?_)
        try dsimp only [List.set] at hC7
        refine WL_nil ?_
        refine W_reg ?_
        refine WL_move rfl rfl ?_
        refine WL_load_box_agg [(.int .i64 x4.1), v4] hC7 0 rfl rfl rfl Try.isAgg108 Try.sizeOf108 rfl rfl ?_
        obtain ⟨x5, hr2, hL1⟩ := bind_some hL1
        refine WL_call Try.call117 rfl rfl (c_M_copyFact (x4.1, x4.2) v4 (h3.now hC7.keep) x5 hr2) ?_
        rintro v5 w5 ⟨hB4, F1, hv1, hn1, hb1⟩
        have hC8 := hC7.push hB4 (A := Item.own v5 x5) hv1 hn1 hb1
        obtain ⟨v6, rfl, hC9⟩ := st108_own hC8
        refine WL_buildSlice (vs := [(.agg #[(.int .i64 x5.1), v6])]) hC9 Try.underlying51 ty108 rfl rfl rfl rfl (by intro v hv; simp only [List.mem_cons, List.not_mem_nil, or_false] at hv; rcases hv with rfl <;> rfl) rfl rfl (fun b4 w6 hC10 hB5 => ?_)
        have hC11 := hC10.row0 (α := (Int × (List Int)))
        have hC13 := hC11.front 2 rfl
        dsimp only [List.eraseIdx] at hC13
        have hC12 := own_st108 x5.1 v6 x5.2 hC13
        have hC14 := hC12.row1
        have hC15 := hC14.front 1 rfl
        dsimp only [List.eraseIdx] at hC15
        have hC16 : Ctx [] w0 w6 (Item.own (.slice (some ⟨b4, 0, none⟩) 1 1) ([(x5.1, x5.2)] : List (Int × (List Int))) :: [Item.box b3 [(.int .i64 x4.1), v4], Item.own v1 (x1 : (List (Int × (List Int))))]) := hC15.rowOwn (by simp [maxLen])
        obtain ⟨x6, hx2, hL1⟩ := bind_some hL1
        refine WL_append_head hC16 1 rfl Try.underlying51 ty108 rfl hx2 rfl rfl rfl (fun v7 w7 hC17 => ?_)
        try dsimp only [List.set] at hC17
        refine WL_assign rfl rfl ?_
        refine WL_nil ?_
        refine blk_normal ?_
        refine nrm_normal ?_
        refine W_reg ?_
        refine WL_add rfl rfl rfl ?_
        refine WL_move rfl rfl ?_
        refine WL_nil ?_
        have hC19 : Ctx [] w0 _ [Item.own v7 (x6 : (List (Int × (List Int)))), Item.box b3 [(.int .i64 x4.1), v4]] := hC17.front 1 rfl
        have hC20 : Ctx [] w0 _ [Item.own v7 (x6 : (List (Int × (List Int))))] := hC19.headN 1
        refine nrm_sub (l' := [(3, v7), (7, u1), (8, (.int .i64 (List.length a1 : Int))), (9, (.int .i64 (w64 (x2 + 1))))]) ⟨rfl, rfl, rfl, rfl, trivial⟩ ?_
        exact ⟨k1, Nat.lt_succ_self _, v7, x6, w64 (x2 + 1), rfl, hC20, hL1⟩
      · replace hL1 := ite_f hL1 hc1
        refine W_exit ?_
        refine nrm_exit ?_
        refine nrm_exit ?_
        refine blk_exit ?_
        have hq1 := Option.some.inj hL1
        subst hq1
        refine nrm_sub (l' := [(3, v1)]) ⟨rfl, trivial⟩ ?_
        exact ⟨v1, x1, rfl, rfl, hC5⟩
  · rintro l2 _ w8 hs2 ⟨v2, x3, rfl, rfl, hC21⟩
    try dsimp only at hF
    refine nrm_sub' hs2 ?_
    clear hs2
    refine W_seq_reg ?_
    refine WL_move rfl rfl ?_
    refine WL_assign rfl rfl ?_
    refine WL_nil ?_
    refine W_ret ?_
    have hq2 := Option.some.inj hF
    subst hq2
    refine fn_ret1 rfl rfl ?_
    exact ⟨_, rfl, own_res hC21 0 rfl⟩

theorem c_M_PageAt {w0 : World} (a1 : (List (Int × (List Int)))) (u1 : Value) (g1 : RO [] w0 u1 a1) (a2 : Int) (a3 : Int) (rr : ((List (Int × (List Int))) × Int × Bool)) (hF : M.PageAt a1 a2 a3 = some rr) :
    Calls Try.prog 38 [u1, (.int .i64 a2), (.int .i64 a3)].toArray w0 fun e w' => ∃ v, e = .returned v ∧ Res3 w0 rr.1 rr.2.1 rr.2.2 v w' := by
  refine calls_of_W Try.func38 rfl rfl ?_
  have hC0 := Ctx.start w0
  unfold M.PageAt at hF
  refine W_seq_reg ?_
  refine WL_assign rfl rfl ?_
  refine WL_assign rfl rfl ?_
  refine WL_assign rfl rfl ?_
  refine WL_nil ?_
  refine W_seq ?_
  obtain ⟨r1, hr1, hF⟩ := bind_some hF
  refine W_cut (fun l w => ∃ x1 : Bool, x1 = r1 ∧ l = [(0, u1), (1, (.int .i64 a2)), (2, (.int .i64 a3)), (19, (.bool x1))] ∧ Below w0.heap.size w0 w ∧ Ctx [] w0 w []) ?_ ?_
  · refine W_reg ?_
    refine WL_move rfl rfl ?_
    obtain ⟨x2, hr2, hr1⟩ := bind_some hr1
    refine WL_call Try.call90 rfl rfl (c_M_isPage a3 x2 hr2) ?_
    intro _ w2 hv1
    obtain ⟨rfl, hB2⟩ := res_bool hv1
    have hC2 := hC0.grow hB2
    refine WL_not rfl rfl ?_
    refine WL_move rfl rfl ?_
    refine WL_fork (fun hc1 => ?_) (fun hc1 => ?_)
    · replace hr1 := ite_t hr1 hc1
      refine WL_guard_skip rfl rfl (by simp) rfl ?_
      refine WL_guard_skip rfl rfl (by simp) rfl ?_
      refine WL_guard_skip rfl rfl (by simp) rfl ?_
      refine WL_guard_skip rfl rfl (by simp) rfl ?_
      refine WL_guard_skip rfl rfl (by simp) rfl ?_
      refine WL_pick_t rfl rfl rfl ?_
      refine WL_nil ?_
      have hq1 := Option.some.inj hr1
      subst hq1
      refine nrm_sub (l' := [(0, u1), (1, (.int .i64 a2)), (2, (.int .i64 a3)), (19, (.bool true))]) ⟨rfl, rfl, rfl, rfl, trivial⟩ ?_
      exact ⟨true, rfl, rfl, (Keep.of hB2).below, hC2⟩
    · replace hr1 := ite_f hr1 hc1
      refine WL_guard rfl rfl ?_
      refine WL_move rfl rfl ?_
      refine WL_guard rfl rfl ?_
      refine WL_move rfl rfl ?_
      refine WL_guard rfl rfl ?_
      refine WL_len Try.underlying51 g1 rfl rfl ?_
      obtain ⟨x3, hr3, hr1⟩ := bind_some hr1
      refine WL_guard rfl rfl ?_
      refine WL_call Try.call84 rfl rfl (c_M_within a2 0 (List.length a1 : Int) x3 hr3) ?_
      intro _ w3 hv2
      obtain ⟨rfl, hB3⟩ := res_bool hv2
      have hC3 := hC2.grow hB3
      refine WL_guard rfl rfl ?_
      refine WL_not rfl rfl ?_
      refine WL_pick_f rfl rfl rfl ?_
      refine WL_nil ?_
      have hq2 := Option.some.inj hr1
      subst hq2
      refine nrm_sub (l' := [(0, u1), (1, (.int .i64 a2)), (2, (.int .i64 a3)), (19, (.bool (!x3)))]) ⟨rfl, rfl, rfl, rfl, trivial⟩ ?_
      exact ⟨(!x3), rfl, rfl, ((Keep.of hB2).then hB3).below, hC3⟩
  · rintro _ w1 ⟨x1, rfl, rfl, hB1, hC1⟩
    try dsimp only at hF
    refine W_cond rfl (fun hc2 => ?_) (fun hc2 => ?_)
    · replace hF := ite_t hF hc2
      refine W_seq_reg ?_
      refine WL_assign rfl rfl ?_
      refine WL_assign rfl rfl ?_
      refine WL_assign rfl rfl ?_
      refine WL_nil ?_
      refine W_ret ?_
      refine nrm_ret ?_
      have hq3 := Option.some.inj hF
      subst hq3
      refine fn_ret3 rfl rfl rfl rfl ?_
      have hC4 := hC1.triv (bool_val (false))
      have hC5 := hC4.triv (int_val (0))
      have hC6 := hC5.triv (nil_val (α := (Int × (List Int))))
      exact ⟨_, rfl, res3_of hC6⟩
    · replace hF := ite_f hF hc2
      refine W_skip ?_
      refine nrm_normal ?_
      refine W_seq_reg ?_
      refine WL_move rfl rfl ?_
      refine WL_len Try.underlying51 g1 rfl rfl ?_
      refine WL_move rfl rfl ?_
      refine WL_move rfl rfl ?_
      refine WL_add rfl rfl rfl ?_
      refine WL_min rfl rfl rfl ?_
      refine WL_assign rfl rfl ?_
      refine WL_nil ?_
      refine W_seq_reg ?_
      refine WL_move rfl rfl ?_
      refine WL_move rfl rfl ?_
      refine WL_move rfl rfl ?_
      obtain ⟨x4, hx1, hF⟩ := bind_some hF
      refine WL_slice_lh Try.underlying51 ty108 g1 hx1 rfl rfl rfl rfl (fun v1 h1 => ?_)
      obtain ⟨x5, hr4, hF⟩ := bind_some hF
      refine WL_call Try.call91 rfl rfl (c_M_copyFacts x4 v1 (h1.now hC1.keep) x5 hr4) ?_
      rintro v2 w4 ⟨hB4, F1, hv3, hn1, hb1⟩
      have hC7 := hC1.push hB4 (A := Item.own v2 x5) hv3 hn1 hb1
      refine WL_move rfl rfl ?_
      refine WL_assign rfl rfl ?_
      refine WL_assign rfl rfl ?_
      refine WL_assign rfl rfl ?_
      refine WL_nil ?_
      refine W_ret ?_
      have hq4 := Option.some.inj hF
      subst hq4
      refine fn_ret3 rfl rfl rfl rfl ?_
      have hC8 := hC7.triv (bool_val (true))
      have hC9 := hC8.triv (int_val (if (w64 (a2 + a3)) < (List.length a1 : Int) then w64 (a2 + a3) else (List.length a1 : Int)))
      have hC10 : Ctx [] w0 _ [Item.own v2 (x5 : (List (Int × (List Int)))), Item.own (.int .i64 (if (w64 (a2 + a3)) < (List.length a1 : Int) then w64 (a2 + a3) else (List.length a1 : Int))) (if (w64 (a2 + a3)) < (List.length a1 : Int) then w64 (a2 + a3) else (List.length a1 : Int) : Int), Item.own (.bool true) (true : Bool)] := hC9.front 2 rfl
      exact ⟨_, rfl, res3_of hC10⟩

theorem c_Q_eqFact {w0 : World} (a1 : (Int × (List Int))) (u1 : Value) (g1 : RO [] w0 u1 a1.2) (a2 : (Int × (List Int))) (u2 : Value) (g2 : RO [] w0 u2 a2.2) (rr : Bool) (hF : Q.eqFact a1 a2 = some rr) :
    Calls Try.prog 92 [(.agg #[(.int .i64 a1.1), u1]), (.agg #[(.int .i64 a2.1), u2])].toArray w0 fun e w' => ∃ v, e = .returned v ∧ Res w0 rr v w' := by
  refine calls_of_W Try.func92 rfl rfl ?_
  have hC0 := Ctx.start w0
  unfold Q.eqFact at hF
  refine W_seq_reg ?_
  refine WL_box (cs := [(.int .i64 a1.1), u1]) hC0 rfl rfl rfl (fun b1 w1 hC1 hB1 => ?_)
  refine WL_box (cs := [(.int .i64 a2.1), u2]) hC1 rfl rfl rfl (fun b2 w2 hC2 hB2 => ?_)
  refine WL_assign rfl rfl ?_
  refine WL_nil ?_
  refine W_seq ?_
  refine W_seq_reg ?_
  refine WL_field Try.underlying108 rfl rfl (fun w => ⟨_, Try.sizeOf3 w⟩) rfl rfl ?_
  refine WL_load_box hC2 1 rfl rfl Try.isAgg3 rfl rfl ?_
  refine WL_field Try.underlying108 rfl rfl (fun w => ⟨_, Try.sizeOf3 w⟩) rfl rfl ?_
  refine WL_load_box hC2 0 rfl rfl Try.isAgg3 rfl rfl ?_
  refine WL_neq rfl rfl rfl ?_
  refine WL_nil ?_
  refine W_cond rfl (fun hc1 => ?_) (fun hc1 => ?_)
  · replace hF := ite_t hF hc1
    refine W_seq_reg ?_
    refine WL_assign rfl rfl ?_
    refine WL_nil ?_
    refine W_ret ?_
    refine nrm_ret ?_
    have hq1 := Option.some.inj hF
    subst hq1
    refine fn_ret1 rfl rfl ?_
    exact ⟨_, rfl, bool_res hC2 _⟩
  · replace hF := ite_f hF hc1
    refine W_skip ?_
    refine nrm_normal ?_
    refine W_seq ?_
    refine W_seq_reg ?_
    refine WL_field Try.underlying108 rfl rfl (fun w => ⟨_, Try.sizeOf27 w⟩) rfl rfl ?_
    refine WL_load_box hC2 1 rfl rfl Try.isAgg27 rfl rfl ?_
    refine WL_field Try.underlying108 rfl rfl (fun w => ⟨_, Try.sizeOf27 w⟩) rfl rfl ?_
    refine WL_load_box hC2 0 rfl rfl Try.isAgg27 rfl rfl ?_
    obtain ⟨x1, hr1, hF⟩ := bind_some hF
    refine WL_call Try.call30 rfl rfl (c_Q_eqIntS a1.2 u1 (g1.now hC2.keep) a2.2 u2 (g2.now hC2.keep) x1 hr1) ?_
    intro _ w3 hv1
    obtain ⟨rfl, hB3⟩ := res_bool hv1
    have hC3 := hC2.grow hB3
    refine WL_not rfl rfl ?_
    refine WL_nil ?_
    refine W_cond rfl (fun hc2 => ?_) (fun hc2 => ?_)
    · replace hF := ite_t hF hc2
      refine W_seq_reg ?_
      refine WL_assign rfl rfl ?_
      refine WL_nil ?_
      refine W_ret ?_
      refine nrm_ret ?_
      have hq2 := Option.some.inj hF
      subst hq2
      refine fn_ret1 rfl rfl ?_
      exact ⟨_, rfl, bool_res hC3 _⟩
    · replace hF := ite_f hF hc2
      refine W_skip ?_
      refine nrm_normal ?_
      refine W_seq_reg ?_
      refine WL_assign rfl rfl ?_
      refine WL_nil ?_
      refine W_ret ?_
      have hq3 := Option.some.inj hF
      subst hq3
      refine fn_ret1 rfl rfl ?_
      exact ⟨_, rfl, bool_res hC3 _⟩

theorem c_Q_eqFactS {w0 : World} (a1 : (List (Int × (List Int)))) (u1 : Value) (g1 : RO [] w0 u1 a1) (a2 : (List (Int × (List Int)))) (u2 : Value) (g2 : RO [] w0 u2 a2) (rr : Bool) (hF : Q.eqFactS a1 a2 = some rr) :
    Calls Try.prog 39 [u1, u2].toArray w0 fun e w' => ∃ v, e = .returned v ∧ Res w0 rr v w' := by
  refine calls_of_W Try.func39 rfl rfl ?_
  have hC0 := Ctx.start w0
  unfold Q.eqFactS at hF
  refine W_seq_reg ?_
  refine WL_assign rfl rfl ?_
  refine WL_nil ?_
  refine W_seq ?_
  refine W_seq_reg ?_
  refine WL_move rfl rfl ?_
  refine WL_len Try.underlying51 g1 rfl rfl ?_
  refine WL_move rfl rfl ?_
  refine WL_len Try.underlying51 g2 rfl rfl ?_
  refine WL_neq rfl rfl rfl ?_
  refine WL_nil ?_
  refine W_cond rfl (fun hc1 => ?_) (fun hc1 => ?_)
  · replace hF := ite_t hF hc1
    refine W_seq_reg ?_
    refine WL_assign rfl rfl ?_
    refine WL_nil ?_
    refine W_ret ?_
    refine nrm_ret ?_
    have hq1 := Option.some.inj hF
    subst hq1
    refine fn_ret1 rfl rfl ?_
    exact ⟨_, rfl, bool_res hC0 _⟩
  · replace hF := ite_f hF hc1
    refine W_skip ?_
    refine nrm_normal ?_
    refine W_seq ?_
    refine W_seq_reg ?_
    refine WL_assign rfl rfl ?_
    refine WL_nil ?_
    obtain ⟨r1, hr1, hF⟩ := bind_some hF
    refine W_norm (fun l w => .inl () = r1 ∧ l = [] ∧ Below w0.heap.size w0 w ∧ Ctx [] w0 w []) ?_ ?_
    · refine W_block ?_
      refine W.sub (l' := [(0, u1), (1, u2), (5, (.int .i64 0))]) ?_ ⟨rfl, rfl, rfl, trivial⟩
      refine W_loop (fun k l w => ∃ x1 : Int, l = [(0, u1), (1, u2), (5, (.int .i64 x1))] ∧ Below w0.heap.size w0 w ∧ Ctx [] w0 w [] ∧ Q.eqFactS_l1 a1 a2 k x1 = some r1) FUEL ⟨0, rfl, (Below.refl _ _), hC0, hr1⟩ ?_
      clear hr1
      rintro k1 _ w1 ⟨x1, rfl, hB1, hC1, hL1⟩
      cases k1 with
      | zero => rw [Q.eqFactS_l1] at hL1; cases hL1
      | succ k1 =>
        rw [Q.eqFactS_l1] at hL1
        refine W_seq ?_
        refine W_seq_reg ?_
        refine WL_move rfl rfl ?_
        refine WL_move rfl rfl ?_
        refine WL_len Try.underlying51 g1 rfl rfl ?_
        refine WL_lss rfl rfl rfl ?_
        refine WL_nil ?_
        refine W_cond rfl (fun hc2 => ?_) (fun hc2 => ?_)
        · replace hL1 := ite_t hL1 hc2
          refine W_skip ?_
          refine nrm_normal ?_
          refine W_seq ?_
          refine W_block ?_
          refine W_seq ?_
          refine W_drawn 10 rfl hmix (fun w2 hB2 => ?_)
          have hC2 := hC1.grow hB2
          refine WA_take 0 rfl (by kernel_rfl) (by kernel_rfl) (by kernel_rfl) rfl (fl_move rfl) ?_
          refine WL_move rfl rfl ?_
          refine WL_nil ?_
          refine WA_take 1 rfl (by kernel_rfl) (by kernel_rfl) (by kernel_rfl) rfl (fl_move rfl) ?_
          refine WL_move rfl rfl ?_
          refine WL_nil ?_
          obtain ⟨x2, hx1, hL1⟩ := bind_some hL1
          refine WA_take 2 rfl (by kernel_rfl) (by kernel_rfl) (by kernel_rfl) rfl (fl_index Try.underlying51 ty108 g1 hx1 rfl rfl) ?_
          refine WL_index Try.underlying51 ty108 g1 hx1 rfl rfl rfl (fun b1 o1 h1 => ?_)
          refine WL_nil ?_
          refine WA_take 4 rfl (by kernel_rfl) (by kernel_rfl) (by kernel_rfl) rfl (fl_move rfl) ?_
          refine WL_move rfl rfl ?_
          refine WL_nil ?_
          refine WA_take 5 rfl (by kernel_rfl) (by kernel_rfl) (by kernel_rfl) rfl (fl_move rfl) ?_
          refine WL_move rfl rfl ?_
          refine WL_nil ?_
          obtain ⟨x3, hx2, hL1⟩ := bind_some hL1
          refine WA_take 6 rfl (by kernel_rfl) (by kernel_rfl) (by kernel_rfl) rfl (fl_index Try.underlying51 ty108 g2 hx2 rfl rfl) ?_
          refine WL_index Try.underlying51 ty108 g2 hx2 rfl rfl rfl (fun b2 o2 h2 => ?_)
          refine WL_nil ?_
          refine WA.sub (l' := [(0, u1), (1, u2), (5, (.int .i64 x1)), (11, (.int .i64 x1)), (12, u1), (13, (.int .i64 (List.length a1 : Int))), (14, (.bool (decide (x1 < (List.length a1 : Int))))), (17, u1), (18, (.int .i64 x1)), (19, (ptr b1 o1)), (21, u2), (22, (.int .i64 x1)), (23, (ptr b2 o2))]) ?_ ⟨rfl, rfl, rfl, rfl, rfl, rfl, rfl, rfl, rfl, rfl, rfl, rfl, rfl, trivial⟩
          refine WA_postsE [⟨3, [], fun vs => PW.ro [] w0 x2, []⟩, ⟨7, [], fun vs => PW.ro [] w0 x3, []⟩] [[], []] 2 rfl (by kernel_rfl) (by kernel_rfl) rfl ?_ ?_
          · refine StepsE_cons rfl ?_ ?_
            · intro w3 hB3
              refine DepsE_nil ?_
              refine ⟨_, rfl, ?_⟩
              refine WL_load ty108 h1 (hC2.keep.then hB3) rfl rfl (fun v3 h5 => ?_)
              refine WL_nil ?_
              exact FinE_val (Below.refl _ _) rfl rfl ⟨rfl, h5⟩
            refine StepsE_cons rfl ?_ ?_
            · intro w3 hB3
              refine DepsE_nil ?_
              refine ⟨_, rfl, ?_⟩
              refine WL_load ty108 h2 (hC2.keep.then hB3) rfl rfl (fun v6 h8 => ?_)
              refine WL_nil ?_
              exact FinE_val (Below.refl _ _) rfl rfl ⟨rfl, h8⟩
            exact StepsE_nil
          · intro w4 hB4
            refine AllE_cons rfl rfl rfl ?_
            rintro v3 _ ⟨rfl, h5⟩
            obtain ⟨v2, rfl, h4⟩ := ro_st108 h5
            refine AllE_cons rfl rfl rfl ?_
            rintro v6 _ ⟨rfl, h8⟩
            obtain ⟨v5, rfl, h7⟩ := ro_st108 h8
            refine AllE_nil ?_
            intro hn1 hb1
            have hC3 := hC2.grow hB4
            obtain ⟨x4, hr2, hL1⟩ := bind_some hL1
            refine WA_one 8 (by kernel_rfl) rfl ?_
            refine WL_call Try.call92 rfl rfl (c_Q_eqFact x2 v2 (h4.now hC3.keep) x3 v5 (h7.now hC3.keep) x4 hr2) ?_
            intro _ w5 hv1
            obtain ⟨rfl, hB5⟩ := res_bool hv1
            have hC4 := hC3.grow hB5
            refine WL_nil ?_
            refine WA_take 9 rfl (by kernel_rfl) (by kernel_rfl) (by kernel_rfl) rfl (fl_not rfl) ?_
            refine WL_not rfl rfl ?_
            refine WL_nil ?_
            refine WA_done (by kernel_rfl) ?_
            refine nrm_normal ?_
            refine W_cond rfl (fun hc3 => ?_) (fun hc3 => ?_)
            · replace hL1 := ite_t hL1 hc3
              refine W_seq_reg ?_
              refine WL_assign rfl rfl ?_
              refine WL_nil ?_
              refine W_ret ?_
              refine blk_ret ?_
              refine nrm_ret ?_
              refine nrm_ret ?_
              refine blk_ret ?_
              refine nrm_ret ?_
              refine nrm_ret ?_
              have hq2 := Option.some.inj hL1
              subst hq2
              dsimp only at hF
              have hq3 := Option.some.inj hF
              subst hq3
              refine fn_ret1 rfl rfl ?_
              exact ⟨_, rfl, bool_res hC4 _⟩
            · replace hL1 := ite_f hL1 hc3
              refine W_skip ?_
              refine blk_normal ?_
              refine nrm_normal ?_
              refine W_reg ?_
              refine WL_move rfl rfl ?_
              refine WL_add rfl rfl rfl ?_
              refine WL_assign rfl rfl ?_
              refine WL_nil ?_
              refine nrm_sub (l' := [(0, u1), (1, u2), (5, (.int .i64 (w64 (x1 + 1))))]) ⟨rfl, rfl, rfl, trivial⟩ ?_
              exact ⟨k1, Nat.lt_succ_self _, w64 (x1 + 1), rfl, ((((Keep.of hB1).then hB2).then hB4).then hB5).below, hC4, hL1⟩
        · replace hL1 := ite_f hL1 hc2
          refine W_exit ?_
          refine nrm_exit ?_
          refine nrm_exit ?_
          refine blk_exit ?_
          have hq4 := Option.some.inj hL1
          subst hq4
          refine nrm_sub (l' := []) trivial ?_
          exact ⟨rfl, rfl, (Keep.of hB1).below, hC1⟩
    · rintro l2 _ w6 hs2 ⟨rfl, rfl, hB6, hC5⟩
      try dsimp only at hF
      refine nrm_sub' hs2 ?_
      clear hs2
      refine W_seq_reg ?_
      refine WL_assign rfl rfl ?_
      refine WL_nil ?_
      refine W_ret ?_
      have hq5 := Option.some.inj hF
      subst hq5
      refine fn_ret1 rfl rfl ?_
      exact ⟨_, rfl, bool_res hC5 _⟩

theorem c_Q_markFactS {w0 : World} {Fs : List (List Nat)} (a1 : (List (Int × (List Int)))) (u1 : Value) (a2 : Int) (hH : Hold [Item.own u1 (a1 : (List (Int × (List Int))))] w0 Fs) (hn : Fs.flatten.Nodup) (rr : (Int × (List (Int × (List Int))))) (hF : Q.markFactS a1 a2 = some rr) :
    Calls Try.prog 40 [u1, (.int .i64 a2)].toArray w0 fun e w' => ∃ v, e = .returned v ∧ v = (.int .i64 rr.1) ∧ Ctx Fs.flatten w0 w' [Item.own u1 (rr.2 : (List (Int × (List Int))))] := by
  refine calls_of_W Try.func40 rfl rfl ?_
  have hC0 := Ctx.startIn hH hn
  unfold Q.markFactS at hF
  refine W_seq_reg ?_
  refine WL_assign rfl rfl ?_
  refine WL_nil ?_
  refine W_seq ?_
  refine W_seq_reg ?_
  refine WL_assign rfl rfl ?_
  refine WL_nil ?_
  obtain ⟨r1, hr1, hF⟩ := bind_some hF
  refine W_norm (fun l w => ∃ x4 : (List (Int × (List Int))), ∃ x5 : Int, (x4, x5) = r1 ∧ l = [(1, (.int .i64 x5))] ∧ Ctx Fs.flatten w0 w [Item.own u1 (x4 : (List (Int × (List Int))))]) ?_ ?_
  · refine W_block ?_
    refine W.sub (l' := [(0, u1), (1, (.int .i64 a2)), (5, (.int .i64 0))]) ?_ ⟨rfl, rfl, rfl, trivial⟩
    refine W_loop (fun k l w => ∃ x1 : (List (Int × (List Int))), ∃ x2 : Int, ∃ x3 : Int, l = [(0, u1), (1, (.int .i64 x2)), (5, (.int .i64 x3))] ∧ Ctx Fs.flatten w0 w [Item.own u1 (x1 : (List (Int × (List Int))))] ∧ Q.markFactS_l1 k x1 x2 x3 = some r1) FUEL ⟨a1, a2, 0, rfl, hC0, hr1⟩ ?_
    clear hr1
    rintro k1 _ w1 ⟨x1, x2, x3, rfl, hC1, hL1⟩
    cases k1 with
    | zero => rw [Q.markFactS_l1] at hL1; cases hL1
    | succ k1 =>
      rw [Q.markFactS_l1] at hL1
      refine W_seq ?_
      refine W_seq_reg ?_
      refine WL_move rfl rfl ?_
      refine WL_move rfl rfl ?_
      refine WL_len Try.underlying51 (hC1.ro 0 rfl) rfl rfl ?_
      refine WL_lss rfl rfl rfl ?_
      refine WL_nil ?_
      refine W_cond rfl (fun hc1 => ?_) (fun hc1 => ?_)
      · replace hL1 := ite_t hL1 hc1
        refine W_skip ?_
        refine nrm_normal ?_
        refine W_seq ?_
        refine W_block ?_
        refine W_seq_reg ?_
        refine WL_move rfl rfl ?_
        refine WL_move rfl rfl ?_
        refine WL_move rfl rfl ?_
        obtain ⟨x6, hx1, hL1⟩ := bind_some hL1
        refine WL_index_own hC1 0 rfl Try.underlying51 ty108 hx1 rfl rfl rfl (fun b1 hE1 => ?_)
        refine WL_field Try.underlying108 rfl rfl (fun w => ⟨_, Try.sizeOf3 w⟩) rfl rfl ?_
        obtain ⟨cs1, hC3⟩ := hC1.openElem hx1
        obtain ⟨v1, he1, hC4⟩ := st108_own (hC3.cellsOwn rfl)
        obtain rfl := cells_of_agg he1
        refine WL_store_hole (fo := 0) (cs' := [(.int .i64 x2), v1]) hC4 1 rfl hE1 rfl rfl rfl rfl Try.sizeOf3 rfl rfl (fun w2 hC2 => ?_)
        try dsimp only [List.set] at hC2
        have hC5 : Ctx Fs.flatten w0 _ [Item.hole u1 (x1 : (List (Int × (List Int)))) (Int.toNat x3) [(.int .i64 x2), v1], Item.own v1 (x6.2 : (List Int))] := hC2.front 1 rfl
        have hC7 : Ctx Fs.flatten w0 _ [Item.own v1 (x6.2 : (List Int)), Item.hole u1 (x1 : (List (Int × (List Int)))) (Int.toNat x3) [(.int .i64 x2), v1]] := hC5.front 1 rfl
        have hC6 := own_st108 x2 v1 x6.2 hC7
        have hC8 := hC6.ownCells.closeElem
        refine WL_nil ?_
        refine W_seq_reg ?_
        refine WL_move rfl rfl ?_
        refine WL_add rfl rfl rfl ?_
        refine WL_assign rfl rfl ?_
        refine WL_nil ?_
        refine W_reg ?_
        refine WL_move rfl rfl ?_
        refine WL_move rfl rfl ?_
        obtain ⟨x7, hx2, hL1⟩ := bind_some hL1
        refine WL_index_own hC8 0 rfl Try.underlying51 ty108 hx2 rfl rfl rfl (fun b2 hE2 => ?_)
        refine WL_field Try.underlying108 rfl rfl (fun w => ⟨_, Try.sizeOf27 w⟩) rfl rfl ?_
        obtain ⟨cs2, hC9⟩ := hC8.openElem hx2
        obtain ⟨v2, he2, hC10⟩ := st108_own (hC9.cellsOwn rfl)
        obtain rfl := cells_of_agg he2
        refine WL_load_hole (fo := 1) hC10 1 rfl hE2 rfl rfl Try.isAgg27 rfl rfl ?_
        refine WL_move rfl rfl ?_
        obtain ⟨x8, hr2, hL1⟩ := bind_some hL1
        obtain ⟨Fs1, hH1, hn1, hF1, hO1, hb1⟩ := Ctx.lend2 (As := [Item.hole u1 ((List.set x1 (Int.toNat x3) (x2, x6.2)) : (List (Int × (List Int)))) (Int.toNat x3) [(.int .i64 x7.1), v2]]) [Item.own v2 (x7.2 : (List Int))] hC10
        refine WL_call Try.call33 rfl rfl (c_Q_markIntS x7.2 v2 (w64 (x2 + 1)) hH1 hn1 x8 hr2) ?_
        rintro _ w3 ⟨rfl, hq1⟩
        have hC11 : Ctx Fs.flatten w0 w3 [Item.own v2 (x8.2 : (List Int)), Item.hole u1 ((List.set x1 (Int.toNat x3) (x2, x6.2)) : (List (Int × (List Int)))) (Int.toNat x3) [(.int .i64 x7.1), v2]] := hb1 _ _ hq1
        have hC12 : Ctx Fs.flatten w0 _ [Item.hole u1 ((List.set x1 (Int.toNat x3) (x2, x6.2)) : (List (Int × (List Int)))) (Int.toNat x3) [(.int .i64 x7.1), v2], Item.own v2 (x8.2 : (List Int))] := hC11.front 1 rfl
        have hC14 : Ctx Fs.flatten w0 _ [Item.own v2 (x8.2 : (List Int)), Item.hole u1 ((List.set x1 (Int.toNat x3) (x2, x6.2)) : (List (Int × (List Int)))) (Int.toNat x3) [(.int .i64 x7.1), v2]] := hC12.front 1 rfl
        have hC13 := own_st108 x7.1 v2 x8.2 hC14
        have hC15 := hC13.ownCells.closeElem
        refine WL_assign rfl rfl ?_
        refine WL_nil ?_
        refine blk_normal ?_
        refine nrm_normal ?_
        refine W_reg ?_
        refine WL_move rfl rfl ?_
        refine WL_add rfl rfl rfl ?_
        refine WL_assign rfl rfl ?_
        refine WL_nil ?_
        refine nrm_sub (l' := [(0, u1), (1, (.int .i64 x8.1)), (5, (.int .i64 (w64 (x3 + 1))))]) ⟨rfl, rfl, rfl, trivial⟩ ?_
        exact ⟨k1, Nat.lt_succ_self _, (List.set (List.set x1 (Int.toNat x3) (x2, x6.2)) (Int.toNat x3) (x7.1, x8.2)), x8.1, w64 (x3 + 1), rfl, hC15, hL1⟩
      · replace hL1 := ite_f hL1 hc1
        refine W_exit ?_
        refine nrm_exit ?_
        refine nrm_exit ?_
        refine blk_exit ?_
        have hq2 := Option.some.inj hL1
        subst hq2
        refine nrm_sub (l' := [(1, (.int .i64 x2))]) ⟨rfl, trivial⟩ ?_
        exact ⟨x1, x2, rfl, rfl, hC1⟩
  · rintro l2 _ w4 hs2 ⟨x4, x5, rfl, rfl, hC16⟩
    try dsimp only at hF
    refine nrm_sub' hs2 ?_
    clear hs2
    refine W_seq_reg ?_
    refine WL_move rfl rfl ?_
    refine WL_assign rfl rfl ?_
    refine WL_nil ?_
    refine W_ret ?_
    have hq3 := Option.some.inj hF
    subst hq3
    refine fn_ret1 rfl rfl ?_
    exact ⟨_, rfl, rfl, hC16⟩

theorem c_Q_heldFactS {w0 : World} (a1 : (List (Int × (List Int)))) (u1 : Value) (g1 : RO [] w0 u1 a1) (a2 : Int) (rr : Int) (hF : Q.heldFactS a1 a2 = some rr) :
    Calls Try.prog 41 [u1, (.int .i64 a2)].toArray w0 fun e w' => ∃ v, e = .returned v ∧ Res w0 rr v w' := by
  refine calls_of_W Try.func41 rfl rfl ?_
  have hC0 := Ctx.start w0
  unfold Q.heldFactS at hF
  refine W_seq_reg ?_
  refine WL_assign rfl rfl ?_
  refine WL_nil ?_
  refine W_seq ?_
  refine W_seq_reg ?_
  refine WL_assign rfl rfl ?_
  refine WL_nil ?_
  obtain ⟨r1, hr1, hF⟩ := bind_some hF
  refine W_norm (fun l w => ∃ x3 : Int, .inl x3 = r1 ∧ l = [(1, (.int .i64 x3))] ∧ Below w0.heap.size w0 w ∧ Ctx [] w0 w []) ?_ ?_
  · refine W_block ?_
    refine W.sub (l' := [(0, u1), (1, (.int .i64 a2)), (5, (.int .i64 0))]) ?_ ⟨rfl, rfl, rfl, trivial⟩
    refine W_loop (fun k l w => ∃ x1 : Int, ∃ x2 : Int, l = [(0, u1), (1, (.int .i64 x1)), (5, (.int .i64 x2))] ∧ Below w0.heap.size w0 w ∧ Ctx [] w0 w [] ∧ Q.heldFactS_l1 a1 k x1 x2 = some r1) FUEL ⟨a2, 0, rfl, (Below.refl _ _), hC0, hr1⟩ ?_
    clear hr1
    rintro k1 _ w1 ⟨x1, x2, rfl, hB1, hC1, hL1⟩
    cases k1 with
    | zero => rw [Q.heldFactS_l1] at hL1; cases hL1
    | succ k1 =>
      rw [Q.heldFactS_l1] at hL1
      refine W_seq ?_
      refine W_seq_reg ?_
      refine WL_move rfl rfl ?_
      refine WL_move rfl rfl ?_
      refine WL_len Try.underlying51 g1 rfl rfl ?_
      refine WL_lss rfl rfl rfl ?_
      refine WL_nil ?_
      refine W_cond rfl (fun hc1 => ?_) (fun hc1 => ?_)
      · replace hL1 := ite_t hL1 hc1
        refine W_skip ?_
        refine nrm_normal ?_
        refine W_seq ?_
        refine W_block ?_
        refine W_seq ?_
        refine W_seq_reg ?_
        refine WL_move rfl rfl ?_
        refine WL_move rfl rfl ?_
        obtain ⟨x4, hx1, hL1⟩ := bind_some hL1
        refine WL_index Try.underlying51 ty108 g1 hx1 rfl rfl rfl (fun b1 o1 h1 => ?_)
        refine WL_field Try.underlying108 rfl rfl (fun w => ⟨_, Try.sizeOf3 w⟩) rfl rfl ?_
        refine WL_load ty3 h1.fst hC1.keep rfl rfl (fun v1 h2 => ?_)
        obtain rfl := ro_int h2
        refine WL_move rfl rfl ?_
        refine WL_neq rfl rfl rfl ?_
        refine WL_nil ?_
        refine W_cond rfl (fun hc2 => ?_) (fun hc2 => ?_)
        · replace hL1 := ite_t hL1 hc2
          refine W_seq_reg ?_
          refine WL_assign rfl rfl ?_
          refine WL_nil ?_
          refine W_ret ?_
          refine nrm_ret ?_
          refine blk_ret ?_
          refine nrm_ret ?_
          refine nrm_ret ?_
          refine blk_ret ?_
          refine nrm_ret ?_
          refine nrm_ret ?_
          have hq1 := Option.some.inj hL1
          subst hq1
          dsimp only at hF
          have hq2 := Option.some.inj hF
          subst hq2
          refine fn_ret1 rfl rfl ?_
          exact ⟨_, rfl, int_res hC1 _⟩
        · replace hL1 := ite_f hL1 hc2
          refine W_skip ?_
          refine nrm_normal ?_
          refine W_seq_reg ?_
          refine WL_move rfl rfl ?_
          refine WL_add rfl rfl rfl ?_
          refine WL_assign rfl rfl ?_
          refine WL_nil ?_
          refine W_seq_reg ?_
          refine WL_move rfl rfl ?_
          refine WL_move rfl rfl ?_
          obtain ⟨x5, hx2, hL1⟩ := bind_some hL1
          refine WL_index Try.underlying51 ty108 g1 hx2 rfl rfl rfl (fun b2 o2 h3 => ?_)
          refine WL_field Try.underlying108 rfl rfl (fun w => ⟨_, Try.sizeOf27 w⟩) rfl rfl ?_
          refine WL_load ty27 h3.snd hC1.keep rfl rfl (fun v2 h4 => ?_)
          refine WL_move rfl rfl ?_
          obtain ⟨x6, hr2, hL1⟩ := bind_some hL1
          refine WL_call Try.call34 rfl rfl (c_Q_heldIntS x5.2 v2 (h4.now hC1.keep) (w64 (x1 + 1)) x6 hr2) ?_
          intro _ w2 hv1
          obtain ⟨rfl, hB2⟩ := res_int hv1
          have hC2 := hC1.grow hB2
          refine WL_assign rfl rfl ?_
          refine WL_nil ?_
          refine W_seq_reg ?_
          refine WL_move rfl rfl ?_
          refine WL_lss rfl rfl rfl ?_
          refine WL_nil ?_
          refine W_cond rfl (fun hc3 => ?_) (fun hc3 => ?_)
          · replace hL1 := ite_t hL1 hc3
            refine W_seq_reg ?_
            refine WL_assign rfl rfl ?_
            refine WL_nil ?_
            refine W_ret ?_
            refine blk_ret ?_
            refine nrm_ret ?_
            refine nrm_ret ?_
            refine blk_ret ?_
            refine nrm_ret ?_
            refine nrm_ret ?_
            have hq3 := Option.some.inj hL1
            subst hq3
            dsimp only at hF
            have hq4 := Option.some.inj hF
            subst hq4
            refine fn_ret1 rfl rfl ?_
            exact ⟨_, rfl, int_res hC2 _⟩
          · replace hL1 := ite_f hL1 hc3
            refine W_skip ?_
            refine blk_normal ?_
            refine nrm_normal ?_
            refine W_reg ?_
            refine WL_move rfl rfl ?_
            refine WL_add rfl rfl rfl ?_
            refine WL_assign rfl rfl ?_
            refine WL_nil ?_
            refine nrm_sub (l' := [(0, u1), (1, (.int .i64 x6)), (5, (.int .i64 (w64 (x2 + 1))))]) ⟨rfl, rfl, rfl, trivial⟩ ?_
            exact ⟨k1, Nat.lt_succ_self _, x6, w64 (x2 + 1), rfl, ((Keep.of hB1).then hB2).below, hC2, hL1⟩
      · replace hL1 := ite_f hL1 hc1
        refine W_exit ?_
        refine nrm_exit ?_
        refine nrm_exit ?_
        refine blk_exit ?_
        have hq5 := Option.some.inj hL1
        subst hq5
        refine nrm_sub (l' := [(1, (.int .i64 x1))]) ⟨rfl, trivial⟩ ?_
        exact ⟨x1, rfl, rfl, (Keep.of hB1).below, hC1⟩
  · rintro l2 _ w3 hs2 ⟨x3, rfl, rfl, hB3, hC3⟩
    try dsimp only at hF
    refine nrm_sub' hs2 ?_
    clear hs2
    refine W_seq_reg ?_
    refine WL_move rfl rfl ?_
    refine WL_assign rfl rfl ?_
    refine WL_nil ?_
    refine W_ret ?_
    have hq6 := Option.some.inj hF
    subst hq6
    refine fn_ret1 rfl rfl ?_
    exact ⟨_, rfl, int_res hC3 _⟩

theorem c_Q_FnExactPageAt {w0 : World} (a1 : (List (Int × (List Int)))) (u1 : Value) (g1 : RO [] w0 u1 a1) (a2 : Int) (a3 : Int) (rr : Bool) (hF : Q.FnExactPageAt a1 a2 a3 = some rr) :
    Calls Try.prog 9 [u1, (.int .i64 a2), (.int .i64 a3)].toArray w0 fun e w' => ∃ v, e = .returned v ∧ Res w0 rr v w' := by
  refine calls_of_W Try.func9 rfl rfl ?_
  have hC0 := Ctx.start w0
  unfold Q.FnExactPageAt at hF
  refine W_seq_reg ?_
  refine WL_assign rfl rfl ?_
  refine WL_nil ?_
  refine W_seq_reg ?_
  refine WL_assign rfl rfl ?_
  refine WL_nil ?_
  refine W_seq_reg ?_
  refine WL_move rfl rfl ?_
  refine WL_move rfl rfl ?_
  obtain ⟨x1, hr1, hF⟩ := bind_some hF
  refine WL_call Try.call35 rfl rfl (c_Q_szFactS a1 u1 (g1.now hC0.keep) 1048576 x1 hr1) ?_
  intro _ w1 hv1
  obtain ⟨rfl, hB1⟩ := res_int hv1
  have hC1 := hC0.grow hB1
  refine WL_assign rfl rfl ?_
  refine WL_nil ?_
  refine W_seq ?_
  refine W_seq_reg ?_
  refine WL_move rfl rfl ?_
  refine WL_lss rfl rfl rfl ?_
  refine WL_nil ?_
  refine W_cond rfl (fun hc1 => ?_) (fun hc1 => ?_)
  · replace hF := ite_t hF hc1
    refine W_seq_reg ?_
    refine WL_assign rfl rfl ?_
    refine WL_nil ?_
    refine W_ret ?_
    refine nrm_ret ?_
    have hq1 := Option.some.inj hF
    subst hq1
    refine fn_ret1 rfl rfl ?_
    exact ⟨_, rfl, bool_res hC1 _⟩
  · replace hF := ite_f hF hc1
    refine W_skip ?_
    refine nrm_normal ?_
    refine W_seq_reg ?_
    refine WL_move rfl rfl ?_
    obtain ⟨x2, hr2, hF⟩ := bind_some hF
    refine WL_call Try.call37 rfl rfl (c_Q_toFactS a1 u1 (g1.now hC1.keep) x2 hr2) ?_
    rintro v1 w2 ⟨hB2, F1, hv2, hn1, hb1⟩
    have hC2 := hC1.push hB2 (A := Item.own v1 x2) hv2 hn1 hb1
    refine WL_move rfl rfl ?_
    refine WL_move rfl rfl ?_
    obtain ⟨x3, hr3, hF⟩ := bind_some hF
    refine WL_call Try.call36 rfl rfl (c_S_PageAt x2 v1 ((hC2.ro 0 rfl).now (Keep.refl _ _)) a2 a3 x3 hr3) ?_
    rintro _ w3 ⟨hB3, v2, v3, v4, F2, F3, F4, rfl, hv3, hv4, hv5, hn2, hb2⟩
    obtain ⟨rfl, rfl⟩ := val_int hv4
    obtain ⟨rfl, rfl⟩ := val_bool hv5
    have hC3 := hC2.pushL hB3 (Bs := [Item.own v2 x3.1]) (Fs := [F2]) ⟨F2, _, rfl, hv3, rfl⟩ (by simpa using hn2) (fun b h => hb2 b (by simpa using h))
    refine WL_move rfl rfl ?_
    refine WL_extract rfl rfl rfl ?_
    refine WL_extract rfl rfl rfl ?_
    refine WL_extract rfl rfl rfl ?_
    refine WL_assign rfl rfl ?_
    refine WL_assign rfl rfl ?_
    refine WL_assign rfl rfl ?_
    refine WL_nil ?_
    refine W_seq_reg ?_
    refine WL_move rfl rfl ?_
    obtain ⟨x4, hr4, hF⟩ := bind_some hF
    refine WL_call Try.call37 rfl rfl (c_Q_toFactS a1 u1 (g1.now hC3.keep) x4 hr4) ?_
    rintro v5 w4 ⟨hB4, F5, hv6, hn3, hb3⟩
    have hC4 := hC3.push hB4 (A := Item.own v5 x4) hv6 hn3 hb3
    refine WL_assign rfl rfl ?_
    refine WL_nil ?_
    refine W_seq_reg ?_
    refine WL_move rfl rfl ?_
    refine WL_move rfl rfl ?_
    refine WL_move rfl rfl ?_
    obtain ⟨x5, hr5, hF⟩ := bind_some hF
    refine WL_call Try.call38 rfl rfl (c_M_PageAt x4 v5 ((hC4.ro 0 rfl).now (Keep.refl _ _)) a2 a3 x5 hr5) ?_
    rintro _ w5 ⟨hB5, v6, v7, v8, F6, F7, F8, rfl, hv7, hv8, hv9, hn4, hb4⟩
    obtain ⟨rfl, rfl⟩ := val_int hv8
    obtain ⟨rfl, rfl⟩ := val_bool hv9
    have hC5 := hC4.pushL hB5 (Bs := [Item.own v6 x5.1]) (Fs := [F6]) ⟨F6, _, rfl, hv7, rfl⟩ (by simpa using hn4) (fun b h => hb4 b (by simpa using h))
    refine WL_move rfl rfl ?_
    refine WL_extract rfl rfl rfl ?_
    refine WL_extract rfl rfl rfl ?_
    refine WL_extract rfl rfl rfl ?_
    refine WL_assign rfl rfl ?_
    refine WL_assign rfl rfl ?_
    refine WL_assign rfl rfl ?_
    refine WL_nil ?_
    refine W_seq ?_
    obtain ⟨r1, hr6, hF⟩ := bind_some hF
    refine W_cut (fun l w => ∃ x6 : Bool, x6 = r1 ∧ l = [(0, u1), (1, (.int .i64 a2)), (2, (.int .i64 a3)), (8, v2), (9, (.int .i64 x3.2.1)), (10, (.bool x3.2.2)), (11, v5), (12, v6), (13, (.int .i64 x5.2.1)), (14, (.bool x5.2.2)), (58, (.bool x6))] ∧ Below w5.heap.size w5 w ∧ Ctx [] w0 w [Item.own v6 (x5.1 : (List (Int × (List Int)))), Item.own v5 (x4 : (List (Int × (List Int)))), Item.own v2 (x3.1 : (List (Int × (List Int))))]) ?_ ?_
    · refine W_reg ?_
      refine WL_move rfl rfl ?_
      refine WL_move rfl rfl ?_
      obtain ⟨x7, hr7, hr6⟩ := bind_some hr6
      refine WL_call Try.call39 rfl rfl (c_Q_eqFactS x5.1 v6 ((hC5.ro 0 rfl).now (Keep.refl _ _)) x3.1 v2 ((hC5.ro 2 rfl).now (Keep.refl _ _)) x7 hr7) ?_
      intro _ w7 hv10
      obtain ⟨rfl, hB7⟩ := res_bool hv10
      have hC7 := hC5.grow hB7
      refine WL_not rfl rfl ?_
      refine WL_move rfl rfl ?_
      refine WL_fork (fun hc2 => ?_) (fun hc2 => ?_)
      · replace hr6 := ite_t hr6 hc2
        refine WL_guard_skip rfl rfl (by simp) rfl ?_
        refine WL_guard_skip rfl rfl (by simp) rfl ?_
        refine WL_guard_skip rfl rfl (by simp) rfl ?_
        refine WL_pick_t rfl rfl rfl ?_
        refine WL_move rfl rfl ?_
        refine WL_guard_skip rfl rfl (by simp) rfl ?_
        refine WL_guard_skip rfl rfl (by simp) rfl ?_
        refine WL_guard_skip rfl rfl (by simp) rfl ?_
        refine WL_pick_t rfl rfl rfl ?_
        refine WL_nil ?_
        have hq2 := Option.some.inj hr6
        subst hq2
        have hC8 : Ctx [] w0 _ [Item.own v2 (x3.1 : (List (Int × (List Int)))), Item.own v6 (x5.1 : (List (Int × (List Int)))), Item.own v5 (x4 : (List (Int × (List Int)))), Item.own v1 (x2 : (List (Int × (List Int))))] := hC7.front 2 rfl
        have hC9 : Ctx [] w0 _ [Item.own v5 (x4 : (List (Int × (List Int)))), Item.own v2 (x3.1 : (List (Int × (List Int)))), Item.own v6 (x5.1 : (List (Int × (List Int)))), Item.own v1 (x2 : (List (Int × (List Int))))] := hC8.front 2 rfl
        have hC10 : Ctx [] w0 _ [Item.own v6 (x5.1 : (List (Int × (List Int)))), Item.own v5 (x4 : (List (Int × (List Int)))), Item.own v2 (x3.1 : (List (Int × (List Int)))), Item.own v1 (x2 : (List (Int × (List Int))))] := hC9.front 2 rfl
        have hC11 : Ctx [] w0 _ [Item.own v6 (x5.1 : (List (Int × (List Int)))), Item.own v5 (x4 : (List (Int × (List Int)))), Item.own v2 (x3.1 : (List (Int × (List Int))))] := hC10.headN 3
        refine nrm_sub (l' := [(0, u1), (1, (.int .i64 a2)), (2, (.int .i64 a3)), (8, v2), (9, (.int .i64 x3.2.1)), (10, (.bool x3.2.2)), (11, v5), (12, v6), (13, (.int .i64 x5.2.1)), (14, (.bool x5.2.2)), (58, (.bool true))]) ⟨rfl, rfl, rfl, rfl, rfl, rfl, rfl, rfl, rfl, rfl, rfl, trivial⟩ ?_
        exact ⟨true, rfl, rfl, (Keep.of hB7).below, hC11⟩
      · replace hr6 := ite_f hr6 hc2
        refine WL_guard rfl rfl ?_
        refine WL_move rfl rfl ?_
        refine WL_guard rfl rfl ?_
        refine WL_move rfl rfl ?_
        refine WL_guard rfl rfl ?_
        refine WL_neq rfl rfl rfl ?_
        refine WL_pick_f rfl rfl rfl ?_
        refine WL_move rfl rfl ?_
        refine WL_fork (fun hc3 => ?_) (fun hc3 => ?_)
        · replace hr6 := ite_t hr6 hc3
          refine WL_guard_skip rfl rfl (by simp) rfl ?_
          refine WL_guard_skip rfl rfl (by simp) rfl ?_
          refine WL_guard_skip rfl rfl (by simp) rfl ?_
          refine WL_pick_t rfl rfl rfl ?_
          refine WL_nil ?_
          have hq3 := Option.some.inj hr6
          subst hq3
          have hC12 : Ctx [] w0 _ [Item.own v2 (x3.1 : (List (Int × (List Int)))), Item.own v6 (x5.1 : (List (Int × (List Int)))), Item.own v5 (x4 : (List (Int × (List Int)))), Item.own v1 (x2 : (List (Int × (List Int))))] := hC7.front 2 rfl
          have hC13 : Ctx [] w0 _ [Item.own v5 (x4 : (List (Int × (List Int)))), Item.own v2 (x3.1 : (List (Int × (List Int)))), Item.own v6 (x5.1 : (List (Int × (List Int)))), Item.own v1 (x2 : (List (Int × (List Int))))] := hC12.front 2 rfl
          have hC14 : Ctx [] w0 _ [Item.own v6 (x5.1 : (List (Int × (List Int)))), Item.own v5 (x4 : (List (Int × (List Int)))), Item.own v2 (x3.1 : (List (Int × (List Int)))), Item.own v1 (x2 : (List (Int × (List Int))))] := hC13.front 2 rfl
          have hC15 : Ctx [] w0 _ [Item.own v6 (x5.1 : (List (Int × (List Int)))), Item.own v5 (x4 : (List (Int × (List Int)))), Item.own v2 (x3.1 : (List (Int × (List Int))))] := hC14.headN 3
          refine nrm_sub (l' := [(0, u1), (1, (.int .i64 a2)), (2, (.int .i64 a3)), (8, v2), (9, (.int .i64 x3.2.1)), (10, (.bool x3.2.2)), (11, v5), (12, v6), (13, (.int .i64 x5.2.1)), (14, (.bool x5.2.2)), (58, (.bool true))]) ⟨rfl, rfl, rfl, rfl, rfl, rfl, rfl, rfl, rfl, rfl, rfl, trivial⟩ ?_
          exact ⟨true, rfl, rfl, (Keep.of hB7).below, hC15⟩
        · replace hr6 := ite_f hr6 hc3
          refine WL_guard rfl rfl ?_
          refine WL_move rfl rfl ?_
          refine WL_guard rfl rfl ?_
          refine WL_move rfl rfl ?_
          refine WL_guard rfl rfl ?_
          refine WL_bool_neq Try.underlying4 rfl rfl rfl ?_
          refine WL_pick_f rfl rfl rfl ?_
          refine WL_nil ?_
          have hq4 := Option.some.inj hr6
          subst hq4
          have hC16 : Ctx [] w0 _ [Item.own v2 (x3.1 : (List (Int × (List Int)))), Item.own v6 (x5.1 : (List (Int × (List Int)))), Item.own v5 (x4 : (List (Int × (List Int)))), Item.own v1 (x2 : (List (Int × (List Int))))] := hC7.front 2 rfl
          have hC17 : Ctx [] w0 _ [Item.own v5 (x4 : (List (Int × (List Int)))), Item.own v2 (x3.1 : (List (Int × (List Int)))), Item.own v6 (x5.1 : (List (Int × (List Int)))), Item.own v1 (x2 : (List (Int × (List Int))))] := hC16.front 2 rfl
          have hC18 : Ctx [] w0 _ [Item.own v6 (x5.1 : (List (Int × (List Int)))), Item.own v5 (x4 : (List (Int × (List Int)))), Item.own v2 (x3.1 : (List (Int × (List Int)))), Item.own v1 (x2 : (List (Int × (List Int))))] := hC17.front 2 rfl
          have hC19 : Ctx [] w0 _ [Item.own v6 (x5.1 : (List (Int × (List Int)))), Item.own v5 (x4 : (List (Int × (List Int)))), Item.own v2 (x3.1 : (List (Int × (List Int))))] := hC18.headN 3
          refine nrm_sub (l' := [(0, u1), (1, (.int .i64 a2)), (2, (.int .i64 a3)), (8, v2), (9, (.int .i64 x3.2.1)), (10, (.bool x3.2.2)), (11, v5), (12, v6), (13, (.int .i64 x5.2.1)), (14, (.bool x5.2.2)), (58, (.bool (!decide (x5.2.2 = x3.2.2))))]) ⟨rfl, rfl, rfl, rfl, rfl, rfl, rfl, rfl, rfl, rfl, rfl, trivial⟩ ?_
          exact ⟨(!decide (x5.2.2 = x3.2.2)), rfl, rfl, (Keep.of hB7).below, hC19⟩
    · rintro _ w6 ⟨x6, rfl, rfl, hB6, hC6⟩
      try dsimp only at hF
      refine W_cond rfl (fun hc4 => ?_) (fun hc4 => ?_)
      · replace hF := ite_t hF hc4
        refine W_seq_reg ?_
        refine WL_assign rfl rfl ?_
        refine WL_nil ?_
        refine W_ret ?_
        refine nrm_ret ?_
        have hq5 := Option.some.inj hF
        subst hq5
        refine fn_ret1 rfl rfl ?_
        exact ⟨_, rfl, bool_res hC6 _⟩
      · replace hF := ite_f hF hc4
        refine W_skip ?_
        refine nrm_normal ?_
        refine W_seq ?_
        refine W_seq_reg ?_
        refine WL_move rfl rfl ?_
        refine WL_move rfl rfl ?_
        obtain ⟨x8, hr8, hF⟩ := bind_some hF
        refine WL_call Try.call37 rfl rfl (c_Q_toFactS a1 u1 (g1.now hC6.keep) x8 hr8) ?_
        rintro v9 w8 ⟨hB8, F9, hv11, hn5, hb5⟩
        have hC20 := hC6.push hB8 (A := Item.own v9 x8) hv11 hn5 hb5
        obtain ⟨x9, hr9, hF⟩ := bind_some hF
        refine WL_call Try.call39 rfl rfl (c_Q_eqFactS x4 v5 ((hC20.ro 2 rfl).now (Keep.refl _ _)) x8 v9 ((hC20.ro 0 rfl).now (Keep.refl _ _)) x9 hr9) ?_
        intro _ w9 hv12
        obtain ⟨rfl, hB9⟩ := res_bool hv12
        have hC21 := hC20.grow hB9
        refine WL_not rfl rfl ?_
        refine WL_nil ?_
        refine W_cond rfl (fun hc5 => ?_) (fun hc5 => ?_)
        · replace hF := ite_t hF hc5
          refine W_seq_reg ?_
          refine WL_assign rfl rfl ?_
          refine WL_nil ?_
          refine W_ret ?_
          refine nrm_ret ?_
          have hq6 := Option.some.inj hF
          subst hq6
          refine fn_ret1 rfl rfl ?_
          exact ⟨_, rfl, bool_res hC21 _⟩
        · replace hF := ite_f hF hc5
          refine W_skip ?_
          refine nrm_normal ?_
          refine W_seq_reg ?_
          refine WL_assign rfl rfl ?_
          refine WL_nil ?_
          refine W_seq_reg ?_
          refine WL_move rfl rfl ?_
          refine WL_move rfl rfl ?_
          obtain ⟨x10, hr10, hF⟩ := bind_some hF
          have hC22 : Ctx [] w0 _ [Item.own v5 (x4 : (List (Int × (List Int)))), Item.own v9 (x8 : (List (Int × (List Int)))), Item.own v6 (x5.1 : (List (Int × (List Int)))), Item.own v2 (x3.1 : (List (Int × (List Int))))] := hC21.front 2 rfl
          obtain ⟨Fs1, hH1, hn6, hF1, hO1, hb6⟩ := Ctx.lend2 (As := [Item.own v9 (x8 : (List (Int × (List Int)))), Item.own v6 (x5.1 : (List (Int × (List Int)))), Item.own v2 (x3.1 : (List (Int × (List Int))))]) [Item.own v5 (x4 : (List (Int × (List Int))))] hC22
          refine WL_call Try.call40 rfl rfl (c_Q_markFactS x4 v5 1 hH1 hn6 x10 hr10) ?_
          rintro _ w10 ⟨rfl, hq7⟩
          have hC23 : Ctx [] w0 w10 [Item.own v5 (x10.2 : (List (Int × (List Int)))), Item.own v9 (x8 : (List (Int × (List Int)))), Item.own v6 (x5.1 : (List (Int × (List Int)))), Item.own v2 (x3.1 : (List (Int × (List Int))))] := hb6 _ _ hq7
          refine WL_assign rfl rfl ?_
          refine WL_nil ?_
          refine W_seq ?_
          obtain ⟨r2, hr11, hF⟩ := bind_some hF
          refine W_cut (fun l w => ∃ x11 : Bool, x11 = r2 ∧ l = [(0, u1), (1, (.int .i64 a2)), (2, (.int .i64 a3)), (8, v2), (9, (.int .i64 x3.2.1)), (10, (.bool x3.2.2)), (12, v6), (84, (.bool x11))] ∧ Below w10.heap.size w10 w ∧ Ctx [] w0 w [Item.own v6 (x5.1 : (List (Int × (List Int)))), Item.own v2 (x3.1 : (List (Int × (List Int))))]) ?_ ?_
          · refine W_reg ?_
            refine WL_move rfl rfl ?_
            refine WL_lss rfl rfl rfl ?_
            refine WL_move rfl rfl ?_
            refine WL_fork (fun hc6 => ?_) (fun hc6 => ?_)
            · replace hr11 := ite_t hr11 hc6
              refine WL_guard_skip rfl rfl (by simp) rfl ?_
              refine WL_guard_skip rfl rfl (by simp) rfl ?_
              refine WL_guard_skip rfl rfl (by simp) rfl ?_
              refine WL_guard_skip rfl rfl (by simp) rfl ?_
              refine WL_pick_t rfl rfl rfl ?_
              refine WL_move rfl rfl ?_
              refine WL_guard_skip rfl rfl (by simp) rfl ?_
              refine WL_guard_skip rfl rfl (by simp) rfl ?_
              refine WL_guard_skip rfl rfl (by simp) rfl ?_
              refine WL_pick_t rfl rfl rfl ?_
              refine WL_move rfl rfl ?_
              refine WL_guard_skip rfl rfl (by simp) rfl ?_
              refine WL_guard_skip rfl rfl (by simp) rfl ?_
              refine WL_guard_skip rfl rfl (by simp) rfl ?_
              refine WL_pick_t rfl rfl rfl ?_
              refine WL_nil ?_
              have hq8 := Option.some.inj hr11
              subst hq8
              have hC25 : Ctx [] w0 _ [Item.own v2 (x3.1 : (List (Int × (List Int)))), Item.own v5 (x10.2 : (List (Int × (List Int)))), Item.own v9 (x8 : (List (Int × (List Int)))), Item.own v6 (x5.1 : (List (Int × (List Int))))] := hC23.front 3 rfl
              have hC26 : Ctx [] w0 _ [Item.own v6 (x5.1 : (List (Int × (List Int)))), Item.own v2 (x3.1 : (List (Int × (List Int)))), Item.own v5 (x10.2 : (List (Int × (List Int)))), Item.own v9 (x8 : (List (Int × (List Int))))] := hC25.front 3 rfl
              have hC27 : Ctx [] w0 _ [Item.own v6 (x5.1 : (List (Int × (List Int)))), Item.own v2 (x3.1 : (List (Int × (List Int))))] := hC26.headN 2
              refine nrm_sub (l' := [(0, u1), (1, (.int .i64 a2)), (2, (.int .i64 a3)), (8, v2), (9, (.int .i64 x3.2.1)), (10, (.bool x3.2.2)), (12, v6), (84, (.bool true))]) ⟨rfl, rfl, rfl, rfl, rfl, rfl, rfl, rfl, trivial⟩ ?_
              exact ⟨true, rfl, rfl, (Below.refl _ _), hC27⟩
            · replace hr11 := ite_f hr11 hc6
              refine WL_guard rfl rfl ?_
              refine WL_move rfl rfl ?_
              refine WL_guard rfl rfl ?_
              refine WL_move rfl rfl ?_
              obtain ⟨x12, hr12, hr11⟩ := bind_some hr11
              refine WL_guard rfl rfl ?_
              refine WL_call Try.call39 rfl rfl (c_Q_eqFactS x5.1 v6 ((hC23.ro 2 rfl).now (Keep.refl _ _)) x3.1 v2 ((hC23.ro 3 rfl).now (Keep.refl _ _)) x12 hr12) ?_
              intro _ w12 hv13
              obtain ⟨rfl, hB11⟩ := res_bool hv13
              have hC28 := hC23.grow hB11
              refine WL_guard rfl rfl ?_
              refine WL_not rfl rfl ?_
              refine WL_pick_f rfl rfl rfl ?_
              refine WL_move rfl rfl ?_
              refine WL_fork (fun hc7 => ?_) (fun hc7 => ?_)
              · replace hr11 := ite_t hr11 hc7
                refine WL_guard_skip rfl rfl (by simp) rfl ?_
                refine WL_guard_skip rfl rfl (by simp) rfl ?_
                refine WL_guard_skip rfl rfl (by simp) rfl ?_
                refine WL_pick_t rfl rfl rfl ?_
                refine WL_move rfl rfl ?_
                refine WL_guard_skip rfl rfl (by simp) rfl ?_
                refine WL_guard_skip rfl rfl (by simp) rfl ?_
                refine WL_guard_skip rfl rfl (by simp) rfl ?_
                refine WL_pick_t rfl rfl rfl ?_
                refine WL_nil ?_
                have hq9 := Option.some.inj hr11
                subst hq9
                have hC29 : Ctx [] w0 _ [Item.own v2 (x3.1 : (List (Int × (List Int)))), Item.own v5 (x10.2 : (List (Int × (List Int)))), Item.own v9 (x8 : (List (Int × (List Int)))), Item.own v6 (x5.1 : (List (Int × (List Int))))] := hC28.front 3 rfl
                have hC30 : Ctx [] w0 _ [Item.own v6 (x5.1 : (List (Int × (List Int)))), Item.own v2 (x3.1 : (List (Int × (List Int)))), Item.own v5 (x10.2 : (List (Int × (List Int)))), Item.own v9 (x8 : (List (Int × (List Int))))] := hC29.front 3 rfl
                have hC31 : Ctx [] w0 _ [Item.own v6 (x5.1 : (List (Int × (List Int)))), Item.own v2 (x3.1 : (List (Int × (List Int))))] := hC30.headN 2
                refine nrm_sub (l' := [(0, u1), (1, (.int .i64 a2)), (2, (.int .i64 a3)), (8, v2), (9, (.int .i64 x3.2.1)), (10, (.bool x3.2.2)), (12, v6), (84, (.bool true))]) ⟨rfl, rfl, rfl, rfl, rfl, rfl, rfl, rfl, trivial⟩ ?_
                exact ⟨true, rfl, rfl, (Keep.of hB11).below, hC31⟩
              · replace hr11 := ite_f hr11 hc7
                refine WL_guard rfl rfl ?_
                refine WL_move rfl rfl ?_
                refine WL_guard rfl rfl ?_
                refine WL_move rfl rfl ?_
                refine WL_guard rfl rfl ?_
                refine WL_neq rfl rfl rfl ?_
                refine WL_pick_f rfl rfl rfl ?_
                refine WL_move rfl rfl ?_
                refine WL_fork (fun hc8 => ?_) (fun hc8 => ?_)
                · replace hr11 := ite_t hr11 hc8
                  refine WL_guard_skip rfl rfl (by simp) rfl ?_
                  refine WL_guard_skip rfl rfl (by simp) rfl ?_
                  refine WL_guard_skip rfl rfl (by simp) rfl ?_
                  refine WL_pick_t rfl rfl rfl ?_
                  refine WL_nil ?_
                  have hq10 := Option.some.inj hr11
                  subst hq10
                  have hC32 : Ctx [] w0 _ [Item.own v2 (x3.1 : (List (Int × (List Int)))), Item.own v5 (x10.2 : (List (Int × (List Int)))), Item.own v9 (x8 : (List (Int × (List Int)))), Item.own v6 (x5.1 : (List (Int × (List Int))))] := hC28.front 3 rfl
                  have hC33 : Ctx [] w0 _ [Item.own v6 (x5.1 : (List (Int × (List Int)))), Item.own v2 (x3.1 : (List (Int × (List Int)))), Item.own v5 (x10.2 : (List (Int × (List Int)))), Item.own v9 (x8 : (List (Int × (List Int))))] := hC32.front 3 rfl
                  have hC34 : Ctx [] w0 _ [Item.own v6 (x5.1 : (List (Int × (List Int)))), Item.own v2 (x3.1 : (List (Int × (List Int))))] := hC33.headN 2
                  refine nrm_sub (l' := [(0, u1), (1, (.int .i64 a2)), (2, (.int .i64 a3)), (8, v2), (9, (.int .i64 x3.2.1)), (10, (.bool x3.2.2)), (12, v6), (84, (.bool true))]) ⟨rfl, rfl, rfl, rfl, rfl, rfl, rfl, rfl, trivial⟩ ?_
                  exact ⟨true, rfl, rfl, (Keep.of hB11).below, hC34⟩
                · replace hr11 := ite_f hr11 hc8
                  refine WL_guard rfl rfl ?_
                  refine WL_move rfl rfl ?_
                  refine WL_guard rfl rfl ?_
                  refine WL_move rfl rfl ?_
                  refine WL_guard rfl rfl ?_
                  refine WL_bool_neq Try.underlying4 rfl rfl rfl ?_
                  refine WL_pick_f rfl rfl rfl ?_
                  refine WL_nil ?_
                  have hq11 := Option.some.inj hr11
                  subst hq11
                  have hC35 : Ctx [] w0 _ [Item.own v2 (x3.1 : (List (Int × (List Int)))), Item.own v5 (x10.2 : (List (Int × (List Int)))), Item.own v9 (x8 : (List (Int × (List Int)))), Item.own v6 (x5.1 : (List (Int × (List Int))))] := hC28.front 3 rfl
                  have hC36 : Ctx [] w0 _ [Item.own v6 (x5.1 : (List (Int × (List Int)))), Item.own v2 (x3.1 : (List (Int × (List Int)))), Item.own v5 (x10.2 : (List (Int × (List Int)))), Item.own v9 (x8 : (List (Int × (List Int))))] := hC35.front 3 rfl
                  have hC37 : Ctx [] w0 _ [Item.own v6 (x5.1 : (List (Int × (List Int)))), Item.own v2 (x3.1 : (List (Int × (List Int))))] := hC36.headN 2
                  refine nrm_sub (l' := [(0, u1), (1, (.int .i64 a2)), (2, (.int .i64 a3)), (8, v2), (9, (.int .i64 x3.2.1)), (10, (.bool x3.2.2)), (12, v6), (84, (.bool (!decide (x5.2.2 = x3.2.2))))]) ⟨rfl, rfl, rfl, rfl, rfl, rfl, rfl, rfl, trivial⟩ ?_
                  exact ⟨(!decide (x5.2.2 = x3.2.2)), rfl, rfl, (Keep.of hB11).below, hC37⟩
          · rintro _ w11 ⟨x11, rfl, rfl, hB10, hC24⟩
            try dsimp only at hF
            refine W_cond rfl (fun hc9 => ?_) (fun hc9 => ?_)
            · replace hF := ite_t hF hc9
              refine W_seq_reg ?_
              refine WL_assign rfl rfl ?_
              refine WL_nil ?_
              refine W_ret ?_
              refine nrm_ret ?_
              have hq12 := Option.some.inj hF
              subst hq12
              refine fn_ret1 rfl rfl ?_
              exact ⟨_, rfl, bool_res hC24 _⟩
            · replace hF := ite_f hF hc9
              refine W_skip ?_
              refine nrm_normal ?_
              refine W_seq_reg ?_
              refine WL_assign rfl rfl ?_
              refine WL_nil ?_
              refine W_seq_reg ?_
              refine WL_move rfl rfl ?_
              refine WL_move rfl rfl ?_
              obtain ⟨x13, hr13, hF⟩ := bind_some hF
              obtain ⟨Fs2, hH2, hn7, hF2, hO2, hb7⟩ := Ctx.lend2 (As := [Item.own v2 (x3.1 : (List (Int × (List Int))))]) [Item.own v6 (x5.1 : (List (Int × (List Int))))] hC24
              refine WL_call Try.call40 rfl rfl (c_Q_markFactS x5.1 v6 1 hH2 hn7 x13 hr13) ?_
              rintro _ w13 ⟨rfl, hq13⟩
              have hC38 : Ctx [] w0 w13 [Item.own v6 (x13.2 : (List (Int × (List Int)))), Item.own v2 (x3.1 : (List (Int × (List Int))))] := hb7 _ _ hq13
              refine WL_assign rfl rfl ?_
              refine WL_nil ?_
              refine W_seq_reg ?_
              refine WL_assign rfl rfl ?_
              refine WL_nil ?_
              refine W_seq_reg ?_
              refine WL_move rfl rfl ?_
              refine WL_move rfl rfl ?_
              obtain ⟨x14, hr14, hF⟩ := bind_some hF
              refine WL_call Try.call41 rfl rfl (c_Q_heldFactS x13.2 v6 ((hC38.ro 0 rfl).now (Keep.refl _ _)) 1 x14 hr14) ?_
              intro _ w14 hv14
              obtain ⟨rfl, hB12⟩ := res_int hv14
              have hC39 := hC38.grow hB12
              refine WL_assign rfl rfl ?_
              refine WL_nil ?_
              refine W_seq ?_
              refine W_seq_reg ?_
              refine WL_move rfl rfl ?_
              refine WL_lss rfl rfl rfl ?_
              refine WL_nil ?_
              refine W_cond rfl (fun hc10 => ?_) (fun hc10 => ?_)
              · replace hF := ite_t hF hc10
                refine W_seq_reg ?_
                refine WL_assign rfl rfl ?_
                refine WL_nil ?_
                refine W_ret ?_
                refine nrm_ret ?_
                have hq14 := Option.some.inj hF
                subst hq14
                refine fn_ret1 rfl rfl ?_
                exact ⟨_, rfl, bool_res hC39 _⟩
              · replace hF := ite_f hF hc10
                refine W_skip ?_
                refine nrm_normal ?_
                refine W_seq ?_
                refine W_seq_reg ?_
                refine WL_move rfl rfl ?_
                refine WL_move rfl rfl ?_
                refine WL_neq rfl rfl rfl ?_
                refine WL_nil ?_
                refine W_cond rfl (fun hc11 => ?_) (fun hc11 => ?_)
                · replace hF := ite_t hF hc11
                  refine W_seq_reg ?_
                  refine WL_assign rfl rfl ?_
                  refine WL_nil ?_
                  refine W_ret ?_
                  refine nrm_ret ?_
                  have hq15 := Option.some.inj hF
                  subst hq15
                  refine fn_ret1 rfl rfl ?_
                  exact ⟨_, rfl, bool_res hC39 _⟩
                · replace hF := ite_f hF hc11
                  refine W_skip ?_
                  refine nrm_normal ?_
                  refine W_seq_reg ?_
                  refine WL_move rfl rfl ?_
                  obtain ⟨x15, hr15, hF⟩ := bind_some hF
                  refine WL_call Try.call37 rfl rfl (c_Q_toFactS a1 u1 (g1.now hC39.keep) x15 hr15) ?_
                  rintro v10 w15 ⟨hB13, F10, hv15, hn8, hb8⟩
                  have hC40 := hC39.push hB13 (A := Item.own v10 x15) hv15 hn8 hb8
                  refine WL_move rfl rfl ?_
                  refine WL_move rfl rfl ?_
                  obtain ⟨x16, hr16, hF⟩ := bind_some hF
                  refine WL_call Try.call38 rfl rfl (c_M_PageAt x15 v10 ((hC40.ro 0 rfl).now (Keep.refl _ _)) a2 a3 x16 hr16) ?_
                  rintro _ w16 ⟨hB14, v11, v12, v13, F11, F12, F13, rfl, hv16, hv17, hv18, hn9, hb9⟩
                  obtain ⟨rfl, rfl⟩ := val_int hv17
                  obtain ⟨rfl, rfl⟩ := val_bool hv18
                  have hC41 := hC40.pushL hB14 (Bs := [Item.own v11 x16.1]) (Fs := [F11]) ⟨F11, _, rfl, hv16, rfl⟩ (by simpa using hn9) (fun b h => hb9 b (by simpa using h))
                  refine WL_move rfl rfl ?_
                  refine WL_extract rfl rfl rfl ?_
                  refine WL_extract rfl rfl rfl ?_
                  refine WL_extract rfl rfl rfl ?_
                  refine WL_assign rfl rfl ?_
                  refine WL_assign rfl rfl ?_
                  refine WL_assign rfl rfl ?_
                  refine WL_nil ?_
                  refine W_seq ?_
                  obtain ⟨r3, hr17, hF⟩ := bind_some hF
                  refine W_cut (fun l w => ∃ x17 : Bool, x17 = r3 ∧ l = [(12, v6), (16, (.int .i64 x13.1)), (118, (.bool x17))] ∧ Below w16.heap.size w16 w ∧ Ctx [] w0 w [Item.own v6 (x13.2 : (List (Int × (List Int))))]) ?_ ?_
                  · refine W_reg ?_
                    refine WL_move rfl rfl ?_
                    refine WL_move rfl rfl ?_
                    obtain ⟨x18, hr18, hr17⟩ := bind_some hr17
                    refine WL_call Try.call39 rfl rfl (c_Q_eqFactS x16.1 v11 ((hC41.ro 0 rfl).now (Keep.refl _ _)) x3.1 v2 ((hC41.ro 3 rfl).now (Keep.refl _ _)) x18 hr18) ?_
                    intro _ w18 hv19
                    obtain ⟨rfl, hB16⟩ := res_bool hv19
                    have hC43 := hC41.grow hB16
                    refine WL_not rfl rfl ?_
                    refine WL_move rfl rfl ?_
                    refine WL_fork (fun hc12 => ?_) (fun hc12 => ?_)
                    · replace hr17 := ite_t hr17 hc12
                      refine WL_guard_skip rfl rfl (by simp) rfl ?_
                      refine WL_guard_skip rfl rfl (by simp) rfl ?_
                      refine WL_guard_skip rfl rfl (by simp) rfl ?_
                      refine WL_pick_t rfl rfl rfl ?_
                      refine WL_move rfl rfl ?_
                      refine WL_guard_skip rfl rfl (by simp) rfl ?_
                      refine WL_guard_skip rfl rfl (by simp) rfl ?_
                      refine WL_guard_skip rfl rfl (by simp) rfl ?_
                      refine WL_pick_t rfl rfl rfl ?_
                      refine WL_nil ?_
                      have hq16 := Option.some.inj hr17
                      subst hq16
                      have hC44 : Ctx [] w0 _ [Item.own v6 (x13.2 : (List (Int × (List Int)))), Item.own v11 (x16.1 : (List (Int × (List Int)))), Item.own v10 (x15 : (List (Int × (List Int)))), Item.own v2 (x3.1 : (List (Int × (List Int))))] := hC43.front 2 rfl
                      have hC45 : Ctx [] w0 _ [Item.own v6 (x13.2 : (List (Int × (List Int))))] := hC44.headN 1
                      refine nrm_sub (l' := [(12, v6), (16, (.int .i64 x13.1)), (118, (.bool true))]) ⟨rfl, rfl, rfl, trivial⟩ ?_
                      exact ⟨true, rfl, rfl, (Keep.of hB16).below, hC45⟩
                    · replace hr17 := ite_f hr17 hc12
                      refine WL_guard rfl rfl ?_
                      refine WL_move rfl rfl ?_
                      refine WL_guard rfl rfl ?_
                      refine WL_move rfl rfl ?_
                      refine WL_guard rfl rfl ?_
                      refine WL_neq rfl rfl rfl ?_
                      refine WL_pick_f rfl rfl rfl ?_
                      refine WL_move rfl rfl ?_
                      refine WL_fork (fun hc13 => ?_) (fun hc13 => ?_)
                      · replace hr17 := ite_t hr17 hc13
                        refine WL_guard_skip rfl rfl (by simp) rfl ?_
                        refine WL_guard_skip rfl rfl (by simp) rfl ?_
                        refine WL_guard_skip rfl rfl (by simp) rfl ?_
                        refine WL_pick_t rfl rfl rfl ?_
                        refine WL_nil ?_
                        have hq17 := Option.some.inj hr17
                        subst hq17
                        have hC46 : Ctx [] w0 _ [Item.own v6 (x13.2 : (List (Int × (List Int)))), Item.own v11 (x16.1 : (List (Int × (List Int)))), Item.own v10 (x15 : (List (Int × (List Int)))), Item.own v2 (x3.1 : (List (Int × (List Int))))] := hC43.front 2 rfl
                        have hC47 : Ctx [] w0 _ [Item.own v6 (x13.2 : (List (Int × (List Int))))] := hC46.headN 1
                        refine nrm_sub (l' := [(12, v6), (16, (.int .i64 x13.1)), (118, (.bool true))]) ⟨rfl, rfl, rfl, trivial⟩ ?_
                        exact ⟨true, rfl, rfl, (Keep.of hB16).below, hC47⟩
                      · replace hr17 := ite_f hr17 hc13
                        refine WL_guard rfl rfl ?_
                        refine WL_move rfl rfl ?_
                        refine WL_guard rfl rfl ?_
                        refine WL_move rfl rfl ?_
                        refine WL_guard rfl rfl ?_
                        refine WL_bool_neq Try.underlying4 rfl rfl rfl ?_
                        refine WL_pick_f rfl rfl rfl ?_
                        refine WL_nil ?_
                        have hq18 := Option.some.inj hr17
                        subst hq18
                        have hC48 : Ctx [] w0 _ [Item.own v6 (x13.2 : (List (Int × (List Int)))), Item.own v11 (x16.1 : (List (Int × (List Int)))), Item.own v10 (x15 : (List (Int × (List Int)))), Item.own v2 (x3.1 : (List (Int × (List Int))))] := hC43.front 2 rfl
                        have hC49 : Ctx [] w0 _ [Item.own v6 (x13.2 : (List (Int × (List Int))))] := hC48.headN 1
                        refine nrm_sub (l' := [(12, v6), (16, (.int .i64 x13.1)), (118, (.bool (!decide (x16.2.2 = x3.2.2))))]) ⟨rfl, rfl, rfl, trivial⟩ ?_
                        exact ⟨(!decide (x16.2.2 = x3.2.2)), rfl, rfl, (Keep.of hB16).below, hC49⟩
                  · rintro _ w17 ⟨x17, rfl, rfl, hB15, hC42⟩
                    try dsimp only at hF
                    refine W_cond rfl (fun hc14 => ?_) (fun hc14 => ?_)
                    · replace hF := ite_t hF hc14
                      refine W_seq_reg ?_
                      refine WL_assign rfl rfl ?_
                      refine WL_nil ?_
                      refine W_ret ?_
                      refine nrm_ret ?_
                      have hq19 := Option.some.inj hF
                      subst hq19
                      refine fn_ret1 rfl rfl ?_
                      exact ⟨_, rfl, bool_res hC42 _⟩
                    · replace hF := ite_f hF hc14
                      refine W_skip ?_
                      refine nrm_normal ?_
                      refine W_seq_reg ?_
                      refine WL_assign rfl rfl ?_
                      refine WL_nil ?_
                      refine W_seq_reg ?_
                      refine WL_move rfl rfl ?_
                      refine WL_move rfl rfl ?_
                      obtain ⟨x19, hr19, hF⟩ := bind_some hF
                      refine WL_call Try.call41 rfl rfl (c_Q_heldFactS x13.2 v6 ((hC42.ro 0 rfl).now (Keep.refl _ _)) 1 x19 hr19) ?_
                      intro _ w19 hv20
                      obtain ⟨rfl, hB17⟩ := res_int hv20
                      have hC50 := hC42.grow hB17
                      refine WL_assign rfl rfl ?_
                      refine WL_nil ?_
                      refine W_seq ?_
                      refine W_seq_reg ?_
                      refine WL_move rfl rfl ?_
                      refine WL_lss rfl rfl rfl ?_
                      refine WL_nil ?_
                      refine W_cond rfl (fun hc15 => ?_) (fun hc15 => ?_)
                      · replace hF := ite_t hF hc15
                        refine W_seq_reg ?_
                        refine WL_assign rfl rfl ?_
                        refine WL_nil ?_
                        refine W_ret ?_
                        refine nrm_ret ?_
                        have hq20 := Option.some.inj hF
                        subst hq20
                        refine fn_ret1 rfl rfl ?_
                        exact ⟨_, rfl, bool_res hC50 _⟩
                      · replace hF := ite_f hF hc15
                        refine W_skip ?_
                        refine nrm_normal ?_
                        refine W_seq ?_
                        refine W_seq_reg ?_
                        refine WL_move rfl rfl ?_
                        refine WL_move rfl rfl ?_
                        refine WL_neq rfl rfl rfl ?_
                        refine WL_nil ?_
                        refine W_cond rfl (fun hc16 => ?_) (fun hc16 => ?_)
                        · replace hF := ite_t hF hc16
                          refine W_seq_reg ?_
                          refine WL_assign rfl rfl ?_
                          refine WL_nil ?_
                          refine W_ret ?_
                          refine nrm_ret ?_
                          have hq21 := Option.some.inj hF
                          subst hq21
                          refine fn_ret1 rfl rfl ?_
                          exact ⟨_, rfl, bool_res hC50 _⟩
                        · replace hF := ite_f hF hc16
                          refine W_skip ?_
                          refine nrm_normal ?_
                          refine W_seq_reg ?_
                          refine WL_assign rfl rfl ?_
                          refine WL_nil ?_
                          refine W_ret ?_
                          have hq22 := Option.some.inj hF
                          subst hq22
                          refine fn_ret1 rfl rfl ?_
                          exact ⟨_, rfl, bool_res hC50 _⟩

end Go.Gx.Px
