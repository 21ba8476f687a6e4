/- The contracts of the Go functions against the pure functions, printed by program. Conditions: each says them. -/
import Derived.Test.YtceapjnnikegoaaC2
set_option linter.unusedVariables false
set_option linter.unusedSimpArgs false
set_option maxRecDepth 100000
set_option maxHeartbeats 4000000
namespace Go.Gx.Px
open Go.Proofs Go.RowKit

theorem c_M_copyFact {w0 : World} (a1 : (Int × (List Int))) (u1 : Value) (g1 : RO [] w0 u1 a1.2) (rr : (Int × (List Int))) (hF : M.copyFact a1 = some rr) :
    Calls Try.prog 81 [(.agg #[(.int .i64 a1.1), u1])].toArray w0 fun e w' => ∃ v, e = .returned v ∧ Res w0 rr v w' := by
  refine calls_of_W Try.func81 rfl rfl ?_
  have hC0 := Ctx.start w0
  unfold M.copyFact at hF
  refine W_seq_reg ?_
  refine WL_box (cs := [(.int .i64 a1.1), u1]) hC0 rfl rfl rfl (fun b1 w1 hC1 hB1 => ?_)
  refine WL_alloc hC1 zero78 rfl rfl (fun b2 w2 hC2 hB2 => ?_)
  refine WL_nil ?_
  refine W_seq ?_
  refine W_drawn 7 rfl hmix (fun w3 hB3 => ?_)
  have hC3 := hC2.grow hB3
  refine WA_take 0 rfl (by kernel_rfl) (by kernel_rfl) (by kernel_rfl) rfl (fl_field Try.underlying78 rfl rfl (fun w => ⟨_, Try.sizeOf3 w⟩) rfl) ?_
  refine WL_field Try.underlying78 rfl rfl (fun w => ⟨_, Try.sizeOf3 w⟩) rfl rfl ?_
  refine WL_nil ?_
  refine WA_take 2 rfl (by kernel_rfl) (by kernel_rfl) (by kernel_rfl) rfl (fl_field Try.underlying78 rfl rfl (fun w => ⟨_, Try.sizeOf22 w⟩) rfl) ?_
  refine WL_field Try.underlying78 rfl rfl (fun w => ⟨_, Try.sizeOf22 w⟩) rfl rfl ?_
  refine WL_nil ?_
  obtain ⟨x1, hr1, hF⟩ := bind_some hF
  refine WA.sub (l' := [(0, (.agg #[(.int .i64 a1.1), u1])), (1, (ptr b1 0)), (2, (ptr b2 0)), (3, (ptr b1 0)), (5, (ptr b1 1))]) ?_ ⟨rfl, rfl, rfl, rfl, rfl, trivial⟩
  refine WA_postsE [⟨1, [], fun vs => PW.val (.int .i64 a1.1), []⟩, ⟨3, [], fun vs => PW.val u1, []⟩, ⟨4, [], fun vs => PW.own x1, []⟩] [[], [], [3]] 2 rfl (by kernel_rfl) (by kernel_rfl) rfl ?_ ?_
  · refine StepsE_cons rfl ?_ ?_
    · intro w5 hB5
      refine DepsE_nil ?_
      refine ⟨_, rfl, ?_⟩
      refine WL_load_box (hC3.grow hB5) 1 rfl rfl Try.isAgg3 rfl rfl ?_
      refine WL_nil ?_
      exact FinE_val (Below.refl _ _) rfl rfl ⟨rfl, rfl⟩
    refine StepsE_cons rfl ?_ ?_
    · intro w5 hB5
      refine DepsE_nil ?_
      refine ⟨_, rfl, ?_⟩
      refine WL_load_box (hC3.grow hB5) 1 rfl rfl Try.isAgg22 rfl rfl ?_
      refine WL_nil ?_
      exact FinE_val (Below.refl _ _) rfl rfl ⟨rfl, rfl⟩
    refine StepsE_cons rfl ?_ ?_
    · intro w5 hB5
      refine DepsE_cons rfl rfl rfl ?_
      rintro _ _ ⟨rfl, rfl⟩ _
      refine DepsE_nil ?_
      refine ⟨_, rfl, ?_⟩
      refine WL_call Try.call70 rfl rfl (c_Slices_Clone_Lint_int a1.2 u1 (g1.now (hC3.keep.then hB5)) x1 hr1) ?_
      rintro v1 w4 ⟨hB4, F1, hv1, hn1, hb1⟩
      refine WL_nil ?_
      exact FinE_own hB4 rfl rfl hv1 hn1 hb1 (Val.inh hv1)
    exact StepsE_nil
  · intro w6 hB6
    refine AllE_cons rfl rfl rfl ?_
    rintro _ _ ⟨rfl, rfl⟩
    refine AllE_cons rfl rfl rfl ?_
    rintro _ _ ⟨rfl, rfl⟩
    refine AllE_cons rfl rfl rfl ?_
    intro v1 F1 hv1
    refine AllE_nil ?_
    intro hn2 hb2
    have hC4 := hC3.pushL hB6 (Bs := [Item.own v1 (x1 : (List Int))]) (Fs := [F1]) ⟨F1, _, rfl, hv1, rfl⟩ (by simpa using hn2) (fun b h => (hb2 b (by simpa using h)).1)
    refine WA_take 5 rfl (by kernel_rfl) (by kernel_rfl) (by kernel_rfl) rfl (fl_build (vs := [(0, (.int .i64 a1.1)), (1, v1)]) rfl rfl (built78_0_1 rfl (ro_cells (hC4.ro 0 rfl)))) ?_
    refine WL_build (vs := [(0, (.int .i64 a1.1)), (1, v1)]) rfl rfl rfl (built78_0_1 rfl (ro_cells (hC4.ro 0 rfl))) ?_
    refine WL_nil ?_
    refine WA_one 6 (by kernel_rfl) rfl ?_
    refine WL_store_box_agg (cs' := [(.int .i64 a1.1), v1]) (new := [(.int .i64 a1.1), v1]) hC4 1 rfl rfl (by intro v hv; simp only [List.mem_cons, List.not_mem_nil, or_false] at hv; rcases hv with rfl | rfl; exact rfl; exact (ro_one (hC4.ro 0 rfl))) rfl Try.sizeOf78 rfl rfl (fun w7 hC5 => ?_)
    try dsimp only [List.set] at hC5
    refine WL_nil ?_
    refine WA_done (by kernel_rfl) ?_
    refine nrm_normal ?_
    refine W_ret ?_
    have hq1 := Option.some.inj hF
    subst hq1
    refine fn_retG1 rfl (rv_cell_agg (cs' := [(.int .i64 a1.1), v1]) hC5 (i := 1) rfl rfl rfl Try.isAgg78 Try.sizeOf78 rfl) ?_
    have hC6 := own_st78 a1.1 v1 x1 hC5
    exact ⟨_, rfl, own_res hC6 0 rfl⟩

theorem c_M_copyFacts {w0 : World} (a1 : (List (Int × (List Int)))) (u1 : Value) (g1 : RO [] w0 u1 a1) (rr : (List (Int × (List Int)))) (hF : M.copyFacts a1 = some rr) :
    Calls Try.prog 64 [u1].toArray w0 fun e w' => ∃ v, e = .returned v ∧ Res w0 rr v w' := by
  refine calls_of_W Try.func64 rfl rfl ?_
  have hC0 := Ctx.start w0
  unfold M.copyFacts at hF
  refine W_seq_reg ?_
  refine WL_assign rfl rfl ?_
  refine WL_nil ?_
  refine W_seq_reg ?_
  refine WL_buildSlice (vs := []) hC0 Try.underlying34 ty78 rfl rfl rfl rfl (by simp) rfl rfl (fun b1 w1 hC1 hB1 => ?_)
  have hC2 := hC1.row0 (α := (Int × (List Int)))
  have hC3 := hC2.front 1 rfl
  dsimp only [List.eraseIdx, List.cons_append, List.nil_append, List.append_nil] at hC3
  have hC4 : Ctx [] w0 w1 (Item.own (.slice (some ⟨b1, 0, none⟩) 0 0) (([] : List (Int × (List Int))) : List (Int × (List Int))) :: []) := hC3.rowOwn (by simp [maxLen])
  refine WL_assign rfl rfl ?_
  refine WL_nil ?_
  refine W_seq ?_
  refine W_seq_reg ?_
  refine WL_move rfl rfl ?_
  refine WL_len Try.underlying34 g1 rfl rfl ?_
  refine WL_move rfl rfl ?_
  refine WL_nil ?_
  obtain ⟨r1, hr1, hF⟩ := bind_some hF
  refine W_norm (fun l w => ∃ v2 : Value, ∃ x3 : (List (Int × (List Int))), x3 = r1 ∧ l = [(3, v2)] ∧ Ctx [] w0 w [Item.own v2 (x3 : (List (Int × (List Int))))]) ?_ ?_
  · refine W_block ?_
    refine W.sub (l' := [(3, (.slice (some ⟨b1, 0, none⟩) 0 0)), (7, u1), (8, (.int .i64 (List.length a1 : Int))), (9, (.int .i64 0))]) ?_ ⟨rfl, rfl, rfl, rfl, trivial⟩
    refine W_loop (fun k l w => ∃ v1 : Value, ∃ x1 : (List (Int × (List Int))), ∃ x2 : Int, l = [(3, v1), (7, u1), (8, (.int .i64 (List.length a1 : Int))), (9, (.int .i64 x2))] ∧ Ctx [] w0 w [Item.own v1 (x1 : (List (Int × (List Int))))] ∧ M.copyFacts_l1 a1 k x1 x2 = some r1) FUEL ⟨(.slice (some ⟨b1, 0, none⟩) 0 0), ([] : List (Int × (List Int))), 0, rfl, hC4, hr1⟩ ?_
    clear hr1
    rintro k1 _ w2 ⟨v1, x1, x2, rfl, hC5, hL1⟩
    cases k1 with
    | zero => rw [M.copyFacts_l1] at hL1; cases hL1
    | succ k1 =>
      rw [M.copyFacts_l1] at hL1
      refine W_seq_reg ?_
      refine WL_lss rfl rfl rfl ?_
      refine WL_nil ?_
      refine W_seq ?_
      refine W_cond rfl (fun hc1 => ?_) (fun hc1 => ?_)
      · replace hL1 := ite_t hL1 hc1
        refine W_skip ?_
        refine nrm_normal ?_
        refine W_seq ?_
        refine W_block ?_
        refine W_seq_reg ?_
        obtain ⟨x4, hx1, hL1⟩ := bind_some hL1
        refine WL_index Try.underlying34 ty78 g1 hx1 rfl rfl rfl (fun b2 o1 h1 => ?_)
        refine WL_load ty78 h1 hC5.keep rfl rfl (fun v3 h2 => ?_)
        obtain ⟨v4, rfl, h3⟩ := ro_st78 h2
        refine WL_alloc hC5 zero78 rfl rfl (fun b3 w3 hC6 hB3 => ?_)
        refine WL_store_box_agg (cs' := [(.int .i64 x4.1), v4]) (new := [(.int .i64 x4.1), v4]) hC6 0 rfl rfl (by intro v hv; simp only [List.mem_cons, List.not_mem_nil, or_false] at hv; rcases hv with rfl | rfl; exact rfl; exact (ro_one h3)) rfl Try.sizeOf78 rfl rfl (fun w4 hC7 => ?_)
        try dsimp only [List.set] at hC7
        refine WL_nil ?_
        refine W_reg ?_
        refine WL_move rfl rfl ?_
        refine WL_load_box_agg [(.int .i64 x4.1), v4] hC7 0 rfl rfl rfl Try.isAgg78 Try.sizeOf78 rfl rfl ?_
        obtain ⟨x5, hr2, hL1⟩ := bind_some hL1
        refine WL_call Try.call81 rfl rfl (c_M_copyFact (x4.1, x4.2) v4 (h3.now hC7.keep) x5 hr2) ?_
        rintro v5 w5 ⟨hB4, F1, hv1, hn1, hb1⟩
        have hC8 := hC7.push hB4 (A := Item.own v5 x5) hv1 hn1 hb1
        obtain ⟨v6, rfl, hC9⟩ := st78_own hC8
        refine WL_buildSlice (vs := [(.agg #[(.int .i64 x5.1), v6])]) hC9 Try.underlying34 ty78 rfl rfl rfl rfl (by intro v hv; simp only [List.mem_cons, List.not_mem_nil, or_false] at hv; rcases hv with rfl <;> rfl) rfl rfl (fun b4 w6 hC10 hB5 => ?_)
        have hC11 := hC10.row0 (α := (Int × (List Int)))
        have hC13 := hC11.front 2 rfl
        dsimp only [List.eraseIdx, List.cons_append, List.nil_append, List.append_nil] at hC13
        have hC12 := own_st78 x5.1 v6 x5.2 hC13
        have hC14 := hC12.row1
        have hC15 := hC14.front 1 rfl
        dsimp only [List.eraseIdx, List.cons_append, List.nil_append, List.append_nil] at hC15
        have hC16 : Ctx [] w0 w6 (Item.own (.slice (some ⟨b4, 0, none⟩) 1 1) ([(x5.1, x5.2)] : List (Int × (List Int))) :: [Item.box b3 [(.int .i64 x4.1), v4], Item.own v1 (x1 : (List (Int × (List Int))))]) := hC15.rowOwn (by simp [maxLen])
        obtain ⟨x6, hx2, hL1⟩ := bind_some hL1
        refine WL_append_head hC16 1 rfl Try.underlying34 ty78 rfl hx2 rfl rfl rfl (fun v7 w7 hC17 => ?_)
        try dsimp only [List.set] at hC17
        refine WL_assign rfl rfl ?_
        refine WL_nil ?_
        refine blk_normal ?_
        refine nrm_normal ?_
        refine W_reg ?_
        refine WL_add rfl rfl rfl ?_
        refine WL_move rfl rfl ?_
        refine WL_nil ?_
        have hC19 : Ctx [] w0 _ [Item.own v7 (x6 : (List (Int × (List Int)))), Item.box b3 [(.int .i64 x4.1), v4]] := hC17.front 1 rfl
        have hC20 : Ctx [] w0 _ [Item.own v7 (x6 : (List (Int × (List Int))))] := hC19.headN 1
        refine nrm_sub (l' := [(3, v7), (7, u1), (8, (.int .i64 (List.length a1 : Int))), (9, (.int .i64 (w64 (x2 + 1))))]) ⟨rfl, rfl, rfl, rfl, trivial⟩ ?_
        exact ⟨k1, Nat.lt_succ_self _, v7, x6, w64 (x2 + 1), rfl, hC20, hL1⟩
      · replace hL1 := ite_f hL1 hc1
        refine W_exit ?_
        refine nrm_exit ?_
        refine nrm_exit ?_
        refine blk_exit ?_
        have hq1 := Option.some.inj hL1
        subst hq1
        refine nrm_sub (l' := [(3, v1)]) ⟨rfl, trivial⟩ ?_
        exact ⟨v1, x1, rfl, rfl, hC5⟩
  · rintro l2 _ w8 hs2 ⟨v2, x3, rfl, rfl, hC21⟩
    try dsimp only at hF
    refine nrm_sub' hs2 ?_
    clear hs2
    refine W_seq_reg ?_
    refine WL_move rfl rfl ?_
    refine WL_assign rfl rfl ?_
    refine WL_nil ?_
    refine W_ret ?_
    have hq2 := Option.some.inj hF
    subst hq2
    refine fn_ret1 rfl rfl ?_
    exact ⟨_, rfl, own_res hC21 0 rfl⟩

theorem c_M_matches_c1 {w0 : World} (a1 : (Int × (List Int))) (u1 : Value) (g1 : RO [] w0 u1 a1.2) (pb1 : Nat) (ax1 : (Int × (List Int) × Int × Int × Int)) (g2 : ROAt [] w0 pb1 0 ax1) (pb2 : Nat) (ax2 : (Int × (List Int))) (g3 : ROAt [] w0 pb2 0 ax2) (rr : Bool) (hF : M.matches_c1 a1 ax1 ax2 = some rr) :
    Calls Try.prog 65 [(.agg #[(.int .i64 a1.1), u1]), (ptr pb1 0), (ptr pb2 0)].toArray w0 fun e w' => ∃ v, e = .returned v ∧ Res w0 rr v w' := by
  refine calls_of_W Try.func65 rfl rfl ?_
  have hC0 := Ctx.start w0
  unfold M.matches_c1 at hF
  refine W_seq_reg ?_
  refine WL_box (cs := [(.int .i64 a1.1), u1]) hC0 rfl rfl rfl (fun b1 w1 hC1 hB1 => ?_)
  refine WL_assign rfl rfl ?_
  refine WL_nil ?_
  refine W_seq ?_
  refine W_seq_reg ?_
  refine WL_field Try.underlying78 rfl rfl (fun w => ⟨_, Try.sizeOf3 w⟩) rfl rfl ?_
  refine WL_load_box hC1 0 rfl rfl Try.isAgg3 rfl rfl ?_
  refine WL_field Try.underlying70 rfl rfl (fun w => ⟨_, Try.sizeOf3 w⟩) rfl rfl ?_
  refine WL_load ty3 g2.fst hC1.keep rfl rfl (fun v1 h1 => ?_)
  obtain rfl := ro_int h1
  refine WL_neq rfl rfl rfl ?_
  refine WL_nil ?_
  refine W_cond rfl (fun hc1 => ?_) (fun hc1 => ?_)
  · replace hF := ite_t hF hc1
    refine W_seq_reg ?_
    refine WL_assign rfl rfl ?_
    refine WL_nil ?_
    refine W_ret ?_
    refine nrm_ret ?_
    have hq1 := Option.some.inj hF
    subst hq1
    refine fn_ret1 rfl rfl ?_
    exact ⟨_, rfl, bool_res hC1 _⟩
  · replace hF := ite_f hF hc1
    refine W_skip ?_
    refine nrm_normal ?_
    refine W_seq ?_
    refine W_seq_reg ?_
    refine WL_field Try.underlying70 rfl rfl (fun w => ⟨_, Try.sizeOf22 w⟩) rfl rfl ?_
    refine WL_load ty22 g2.snd.fst hC1.keep rfl rfl (fun v2 h2 => ?_)
    refine WL_len Try.underlying22 h2 rfl rfl ?_
    refine WL_move rfl rfl ?_
    refine WL_nil ?_
    obtain ⟨r1, hr1, hF⟩ := bind_some hF
    refine W_norm (fun l w => .inl () = r1 ∧ l = [] ∧ Below w1.heap.size w1 w ∧ Ctx [] w0 w []) ?_ ?_
    · refine W_block ?_
      refine W.sub (l' := [(2, (ptr pb2 0)), (3, (ptr b1 0)), (13, v2), (14, (.int .i64 (List.length ax1.2.1 : Int))), (15, (.int .i64 0))]) ?_ ⟨rfl, rfl, rfl, rfl, rfl, trivial⟩
      refine W_loop (fun k l w => ∃ x1 : Int, l = [(2, (ptr pb2 0)), (3, (ptr b1 0)), (13, v2), (14, (.int .i64 (List.length ax1.2.1 : Int))), (15, (.int .i64 x1))] ∧ Below w1.heap.size w1 w ∧ Ctx [] w0 w [Item.box b1 [(.int .i64 a1.1), u1]] ∧ M.matches_c1_l1 ax1 a1 ax2 k x1 = some r1) FUEL ⟨0, rfl, (Below.refl _ _), hC1, hr1⟩ ?_
      clear hr1
      rintro k1 _ w2 ⟨x1, rfl, hB2, hC2, hL1⟩
      cases k1 with
      | zero => rw [M.matches_c1_l1] at hL1; cases hL1
      | succ k1 =>
        rw [M.matches_c1_l1] at hL1
        refine W_seq_reg ?_
        refine WL_lss rfl rfl rfl ?_
        refine WL_nil ?_
        refine W_seq ?_
        refine W_cond rfl (fun hc2 => ?_) (fun hc2 => ?_)
        · replace hL1 := ite_t hL1 hc2
          refine W_skip ?_
          refine nrm_normal ?_
          refine W_seq ?_
          refine W_block ?_
          refine W_seq_reg ?_
          refine WL_move rfl rfl ?_
          obtain ⟨x2, hx1, hL1⟩ := bind_some hL1
          refine WL_index Try.underlying22 ty3 h2 hx1 rfl rfl rfl (fun b2 o1 h3 => ?_)
          refine WL_load ty3 h3 hC2.keep rfl rfl (fun v3 h4 => ?_)
          obtain rfl := ro_int h4
          refine WL_assign rfl rfl ?_
          refine WL_assign rfl rfl ?_
          refine WL_nil ?_
          refine W_seq ?_
          refine W_drawn 11 rfl hmix (fun w3 hB3 => ?_)
          have hC3 := hC2.grow hB3
          refine WA_take 0 rfl (by kernel_rfl) (by kernel_rfl) (by kernel_rfl) rfl (fl_field Try.underlying78 rfl rfl (fun w => ⟨_, Try.sizeOf22 w⟩) rfl) ?_
          refine WL_field Try.underlying78 rfl rfl (fun w => ⟨_, Try.sizeOf22 w⟩) rfl rfl ?_
          refine WL_nil ?_
          refine WA_take 2 rfl (by kernel_rfl) (by kernel_rfl) (by kernel_rfl) rfl (fl_move rfl) ?_
          refine WL_move rfl rfl ?_
          refine WL_nil ?_
          refine WA_take 5 rfl (by kernel_rfl) (by kernel_rfl) (by kernel_rfl) rfl (fl_field Try.underlying35 rfl rfl (fun w => ⟨_, Try.sizeOf22 w⟩) rfl) ?_
          refine WL_field Try.underlying35 rfl rfl (fun w => ⟨_, Try.sizeOf22 w⟩) rfl rfl ?_
          refine WL_nil ?_
          refine WA_take 7 rfl (by kernel_rfl) (by kernel_rfl) (by kernel_rfl) rfl (fl_move rfl) ?_
          refine WL_move rfl rfl ?_
          refine WL_nil ?_
          obtain ⟨x3, hx2, hL1⟩ := bind_some hL1
          obtain ⟨x4, hx3, hL1⟩ := bind_some hL1
          refine WA.sub (l' := [(2, (ptr pb2 0)), (3, (ptr b1 0)), (5, (.int .i64 x1)), (6, (.int .i64 x2)), (13, v2), (14, (.int .i64 (List.length ax1.2.1 : Int))), (15, (.int .i64 x1)), (16, (.bool (decide (x1 < (List.length ax1.2.1 : Int))))), (17, (.int .i64 x1)), (18, (ptr b2 o1)), (19, (.int .i64 x2)), (20, (ptr b1 1)), (22, (.int .i64 x2)), (25, (ptr pb2 (0 + 1))), (27, (.int .i64 x1))]) ?_ ⟨rfl, rfl, rfl, rfl, rfl, rfl, rfl, rfl, rfl, rfl, rfl, rfl, rfl, rfl, rfl, trivial⟩
          refine WA_postsE [⟨1, [], fun vs => PW.val u1, []⟩, ⟨3, [], fun vs => PW.at [] w0 x3, []⟩, ⟨4, [], fun vs => PW.val (.int .i64 x3), []⟩, ⟨6, [], fun vs => PW.ro [] w0 ax2.2, []⟩, ⟨8, [], fun vs => PW.at [] w0 x4, []⟩, ⟨9, [], fun vs => PW.val (.int .i64 x4), []⟩] [[], [1], [3], [], [6], [8]] 1 rfl (by kernel_rfl) (by kernel_rfl) rfl ?_ ?_
          · refine StepsE_cons rfl ?_ ?_
            · intro w4 hB4
              refine DepsE_nil ?_
              refine ⟨_, rfl, ?_⟩
              refine WL_load_box (hC3.grow hB4) 0 rfl rfl Try.isAgg22 rfl rfl ?_
              refine WL_nil ?_
              exact FinE_val (Below.refl _ _) rfl rfl ⟨rfl, rfl⟩
            refine StepsE_cons rfl ?_ ?_
            · intro w4 hB4
              refine DepsE_cons rfl rfl rfl ?_
              rintro _ _ ⟨rfl, rfl⟩ _
              refine DepsE_nil ?_
              refine ⟨_, rfl, ?_⟩
              refine WL_index Try.underlying22 ty3 g1 hx2 rfl rfl rfl (fun b3 o2 h5 => ?_)
              refine WL_nil ?_
              exact FinE_val (Below.refl _ _) rfl rfl ⟨rfl, _, _, rfl, h5⟩
            refine StepsE_cons rfl ?_ ?_
            · intro w4 hB4
              refine DepsE_cons rfl rfl rfl ?_
              rintro _ _ ⟨rfl, b3, o2, rfl, h5⟩ _
              refine DepsE_nil ?_
              refine ⟨_, rfl, ?_⟩
              refine WL_load ty3 h5 (hC3.keep.then hB4) rfl rfl (fun v4 h6 => ?_)
              obtain rfl := ro_int h6
              refine WL_nil ?_
              exact FinE_val (Below.refl _ _) rfl rfl ⟨rfl, rfl⟩
            refine StepsE_cons rfl ?_ ?_
            · intro w4 hB4
              refine DepsE_nil ?_
              refine ⟨_, rfl, ?_⟩
              refine WL_load ty22 g3.snd (hC3.keep.then hB4) rfl rfl (fun v5 h7 => ?_)
              refine WL_nil ?_
              exact FinE_val (Below.refl _ _) rfl rfl ⟨rfl, h7⟩
            refine StepsE_cons rfl ?_ ?_
            · intro w4 hB4
              refine DepsE_cons rfl rfl rfl ?_
              rintro v5 _ ⟨rfl, h7⟩ _
              refine DepsE_nil ?_
              refine ⟨_, rfl, ?_⟩
              refine WL_index Try.underlying22 ty3 h7 hx3 rfl rfl rfl (fun b4 o3 h8 => ?_)
              refine WL_nil ?_
              exact FinE_val (Below.refl _ _) rfl rfl ⟨rfl, _, _, rfl, h8⟩
            refine StepsE_cons rfl ?_ ?_
            · intro w4 hB4
              refine DepsE_cons rfl rfl rfl ?_
              rintro _ _ ⟨rfl, b4, o3, rfl, h8⟩ _
              refine DepsE_nil ?_
              refine ⟨_, rfl, ?_⟩
              refine WL_load ty3 h8 (hC3.keep.then hB4) rfl rfl (fun v6 h9 => ?_)
              obtain rfl := ro_int h9
              refine WL_nil ?_
              exact FinE_val (Below.refl _ _) rfl rfl ⟨rfl, rfl⟩
            exact StepsE_nil
          · intro w5 hB5
            refine AllE_cons rfl rfl rfl ?_
            rintro _ _ ⟨rfl, rfl⟩
            refine AllE_cons rfl rfl rfl ?_
            rintro _ _ ⟨rfl, b3, o2, rfl, h5⟩
            refine AllE_cons rfl rfl rfl ?_
            rintro _ _ ⟨rfl, rfl⟩
            refine AllE_cons rfl rfl rfl ?_
            rintro v5 _ ⟨rfl, h7⟩
            refine AllE_cons rfl rfl rfl ?_
            rintro _ _ ⟨rfl, b4, o3, rfl, h8⟩
            refine AllE_cons rfl rfl rfl ?_
            rintro _ _ ⟨rfl, rfl⟩
            refine AllE_nil ?_
            intro hn1 hb1
            have hC4 := hC3.grow hB5
            refine WA_take 10 rfl (by kernel_rfl) (by kernel_rfl) (by kernel_rfl) rfl (fl_neq rfl rfl) ?_
            refine WL_neq rfl rfl rfl ?_
            refine WL_nil ?_
            refine WA_done (by kernel_rfl) ?_
            refine nrm_normal ?_
            refine W_cond rfl (fun hc3 => ?_) (fun hc3 => ?_)
            · replace hL1 := ite_t hL1 hc3
              refine W_seq_reg ?_
              refine WL_assign rfl rfl ?_
              refine WL_nil ?_
              refine W_ret ?_
              refine blk_ret ?_
              refine nrm_ret ?_
              refine nrm_ret ?_
              refine blk_ret ?_
              refine nrm_ret ?_
              refine nrm_ret ?_
              have hq2 := Option.some.inj hL1
              subst hq2
              dsimp only at hF
              have hq3 := Option.some.inj hF
              subst hq3
              refine fn_ret1 rfl rfl ?_
              exact ⟨_, rfl, bool_res hC4 _⟩
            · replace hL1 := ite_f hL1 hc3
              refine W_skip ?_
              refine blk_normal ?_
              refine nrm_normal ?_
              refine W_reg ?_
              refine WL_add rfl rfl rfl ?_
              refine WL_move rfl rfl ?_
              refine WL_nil ?_
              refine nrm_sub (l' := [(2, (ptr pb2 0)), (3, (ptr b1 0)), (13, v2), (14, (.int .i64 (List.length ax1.2.1 : Int))), (15, (.int .i64 (w64 (x1 + 1))))]) ⟨rfl, rfl, rfl, rfl, rfl, trivial⟩ ?_
              exact ⟨k1, Nat.lt_succ_self _, w64 (x1 + 1), rfl, (((Keep.of hB2).then hB3).then hB5).below, hC4, hL1⟩
        · replace hL1 := ite_f hL1 hc2
          refine W_exit ?_
          refine nrm_exit ?_
          refine nrm_exit ?_
          refine blk_exit ?_
          have hq4 := Option.some.inj hL1
          subst hq4
          have hC5 : Ctx [] w0 _ [] := hC2.headN 0
          refine nrm_sub (l' := []) trivial ?_
          exact ⟨rfl, rfl, (Keep.of hB2).below, hC5⟩
    · rintro l2 _ w6 hs2 ⟨rfl, rfl, hB6, hC6⟩
      try dsimp only at hF
      refine nrm_sub' hs2 ?_
      clear hs2
      refine W_seq_reg ?_
      refine WL_assign rfl rfl ?_
      refine WL_nil ?_
      refine W_ret ?_
      have hq5 := Option.some.inj hF
      subst hq5
      refine fn_ret1 rfl rfl ?_
      exact ⟨_, rfl, bool_res hC6 _⟩

theorem c_Slices_IndexFunc_Limpl_Fact_impl_Fact_M_matches_c1 {w0 : World} (a1 : (List (Int × (List Int)))) (u1 : Value) (g1 : RO [] w0 u1 a1) (pb1 : Nat) (ax1 : (Int × (List Int) × Int × Int × Int)) (g2 : ROAt [] w0 pb1 0 ax1) (pb2 : Nat) (ax2 : (Int × (List Int))) (g3 : ROAt [] w0 pb2 0 ax2) (rr : Int) (hF : Slices.IndexFunc_Limpl_Fact_impl_Fact_M_matches_c1 a1 ax1 ax2 = some rr) :
    Calls Try.prog 80 [u1, (.func (.func 65) #[] #[(ptr pb1 0), (ptr pb2 0)])].toArray w0 fun e w' => ∃ v, e = .returned v ∧ Res w0 rr v w' := by
  refine calls_of_W Try.func80 rfl rfl ?_
  have hC0 := Ctx.start w0
  unfold Slices.IndexFunc_Limpl_Fact_impl_Fact_M_matches_c1 at hF
  refine W_seq_reg ?_
  refine WL_assign rfl rfl ?_
  refine WL_nil ?_
  refine W_seq ?_
  refine W_seq_reg ?_
  refine WL_move rfl rfl ?_
  refine WL_len Try.underlying34 g1 rfl rfl ?_
  refine WL_move rfl rfl ?_
  refine WL_nil ?_
  obtain ⟨r1, hr1, hF⟩ := bind_some hF
  refine W_norm (fun l w => .inl () = r1 ∧ l = [] ∧ Below w0.heap.size w0 w ∧ Ctx [] w0 w []) ?_ ?_
  · refine W_block ?_
    refine W.sub (l' := [(0, u1), (1, (.func (.func 65) #[] #[(ptr pb1 0), (ptr pb2 0)])), (7, (.int .i64 (List.length a1 : Int))), (8, (.int .i64 0))]) ?_ ⟨rfl, rfl, rfl, rfl, trivial⟩
    refine W_loop (fun k l w => ∃ x1 : Int, l = [(0, u1), (1, (.func (.func 65) #[] #[(ptr pb1 0), (ptr pb2 0)])), (7, (.int .i64 (List.length a1 : Int))), (8, (.int .i64 x1))] ∧ Below w0.heap.size w0 w ∧ Ctx [] w0 w [] ∧ Slices.IndexFunc_Limpl_Fact_impl_Fact_M_matches_c1_l1 a1 ax1 ax2 k x1 = some r1) FUEL ⟨0, rfl, (Below.refl _ _), hC0, hr1⟩ ?_
    clear hr1
    rintro k1 _ w1 ⟨x1, rfl, hB1, hC1, hL1⟩
    cases k1 with
    | zero => rw [Slices.IndexFunc_Limpl_Fact_impl_Fact_M_matches_c1_l1] at hL1; cases hL1
    | succ k1 =>
      rw [Slices.IndexFunc_Limpl_Fact_impl_Fact_M_matches_c1_l1] at hL1
      refine W_seq_reg ?_
      refine WL_lss rfl rfl rfl ?_
      refine WL_nil ?_
      refine W_seq ?_
      refine W_cond rfl (fun hc1 => ?_) (fun hc1 => ?_)
      · replace hL1 := ite_t hL1 hc1
        refine W_skip ?_
        refine nrm_normal ?_
        refine W_seq ?_
        refine W_block ?_
        refine W_seq_reg ?_
        refine WL_move rfl rfl ?_
        refine WL_assign rfl rfl ?_
        refine WL_nil ?_
        refine W_seq_reg ?_
        refine WL_move rfl rfl ?_
        refine WL_move rfl rfl ?_
        refine WL_move rfl rfl ?_
        obtain ⟨x2, hx1, hL1⟩ := bind_some hL1
        refine WL_index Try.underlying34 ty78 g1 hx1 rfl rfl rfl (fun b1 o1 h1 => ?_)
        refine WL_load ty78 h1 hC1.keep rfl rfl (fun v1 h2 => ?_)
        obtain ⟨v2, rfl, h3⟩ := ro_st78 h2
        obtain ⟨x3, hr2, hL1⟩ := bind_some hL1
        refine WL_callv (cap := [(ptr pb1 0), (ptr pb2 0)]) Try.call65 rfl rfl rfl (c_M_matches_c1 x2 v2 (h3.now hC1.keep) pb1 ax1 (g2.now hC1.keep) pb2 ax2 (g3.now hC1.keep) x3 hr2) ?_
        intro _ w2 hv1
        obtain ⟨rfl, hB2⟩ := res_bool hv1
        have hC2 := hC1.grow hB2
        refine WL_nil ?_
        refine W_cond rfl (fun hc2 => ?_) (fun hc2 => ?_)
        · replace hL1 := ite_t hL1 hc2
          refine W_seq_reg ?_
          refine WL_move rfl rfl ?_
          refine WL_assign rfl rfl ?_
          refine WL_nil ?_
          refine W_ret ?_
          refine blk_ret ?_
          refine nrm_ret ?_
          refine nrm_ret ?_
          refine blk_ret ?_
          refine nrm_ret ?_
          refine nrm_ret ?_
          have hq1 := Option.some.inj hL1
          subst hq1
          dsimp only at hF
          have hq2 := Option.some.inj hF
          subst hq2
          refine fn_ret1 rfl rfl ?_
          exact ⟨_, rfl, int_res hC2 _⟩
        · replace hL1 := ite_f hL1 hc2
          refine W_skip ?_
          refine blk_normal ?_
          refine nrm_normal ?_
          refine W_reg ?_
          refine WL_add rfl rfl rfl ?_
          refine WL_move rfl rfl ?_
          refine WL_nil ?_
          refine nrm_sub (l' := [(0, u1), (1, (.func (.func 65) #[] #[(ptr pb1 0), (ptr pb2 0)])), (7, (.int .i64 (List.length a1 : Int))), (8, (.int .i64 (w64 (x1 + 1))))]) ⟨rfl, rfl, rfl, rfl, trivial⟩ ?_
          exact ⟨k1, Nat.lt_succ_self _, w64 (x1 + 1), rfl, ((Keep.of hB1).then hB2).below, hC2, hL1⟩
      · replace hL1 := ite_f hL1 hc1
        refine W_exit ?_
        refine nrm_exit ?_
        refine nrm_exit ?_
        refine blk_exit ?_
        have hq3 := Option.some.inj hL1
        subst hq3
        refine nrm_sub (l' := []) trivial ?_
        exact ⟨rfl, rfl, (Keep.of hB1).below, hC1⟩
  · rintro l2 _ w3 hs2 ⟨rfl, rfl, hB3, hC3⟩
    try dsimp only at hF
    refine nrm_sub' hs2 ?_
    clear hs2
    refine W_seq_reg ?_
    refine WL_assign rfl rfl ?_
    refine WL_nil ?_
    refine W_ret ?_
    have hq4 := Option.some.inj hF
    subst hq4
    refine fn_ret1 rfl rfl ?_
    exact ⟨_, rfl, int_res hC3 _⟩

theorem c_Slices_DeleteFunc_Limpl_Fact_impl_Fact_M_matches_c1 {Fs : List (List Nat)} {w0 : World} (a1 : (List (Int × (List Int)))) (u1 : Value) (pb1 : Nat) (ax1 : (Int × (List Int) × Int × Int × Int)) (g1 : ROAt Fs.flatten w0 pb1 0 ax1) (pb2 : Nat) (ax2 : (Int × (List Int))) (g2 : ROAt Fs.flatten w0 pb2 0 ax2) (hH : Hold [Item.own u1 (a1 : (List (Int × (List Int))))] w0 Fs) (hn : Fs.flatten.Nodup) (rr : (List (Int × (List Int)))) (hF : Slices.DeleteFunc_Limpl_Fact_impl_Fact_M_matches_c1 a1 ax1 ax2 = some rr) :
    Calls Try.prog 63 [u1, (.func (.func 65) #[] #[(ptr pb1 0), (ptr pb2 0)])].toArray w0 fun e w' => ∃ v, e = .returned v ∧ ∃ q0 : Value, v = q0 ∧ Ctx Fs.flatten w0 w' [Item.own q0 (rr : (List (Int × (List Int))))] := by
  refine calls_of_W Try.func63 rfl rfl ?_
  have hC0 := Ctx.startIn hH hn
  unfold Slices.DeleteFunc_Limpl_Fact_impl_Fact_M_matches_c1 at hF
  obtain ⟨x, hx, hF⟩ := bind_some hF
  refine W_seq_reg ?_
  refine WL_assign rfl rfl ?_
  refine WL_nil ?_
  refine W_seq_reg ?_
  refine WL_move rfl rfl ?_
  refine WL_move rfl rfl ?_
  refine WL_call Try.call80 rfl rfl (c_Slices_IndexFunc_Limpl_Fact_impl_Fact_M_matches_c1 a1 u1 (hC0.ro 0 rfl) pb1 ax1 (g1.now (Keep.refl _ _)) pb2 ax2 (g2.now (Keep.refl _ _)) x hx) ?_
  intro _ w1 hv1
  obtain ⟨rfl, hB1⟩ := res_int hv1
  have hC1 := hC0.grow hB1
  refine WL_assign rfl rfl ?_
  refine WL_nil ?_
  refine W_seq ?_
  refine W_seq_reg ?_
  refine WL_move rfl rfl ?_
  refine WL_eql rfl rfl rfl ?_
  by_cases hx1 : x = -1
  · rw [if_pos hx1] at hF
    obtain rfl := Option.some.inj hF
    rw [decide_eq_true hx1]
    refine WL_nil ?_
    refine W_cond_t rfl ?_
    refine W_seq_reg ?_
    refine WL_move rfl rfl ?_
    refine WL_assign rfl rfl ?_
    refine WL_nil ?_
    refine W_ret ?_
    refine nrm_ret ?_
    refine fn_ret1 rfl rfl ?_
    exact ⟨_, rfl, _, rfl, hC1⟩
  · rw [if_neg hx1] at hF
    have hr : 0 ≤ x ∧ x < (a1.length : Int) := Classical.byContradiction fun h => by rw [if_neg h] at hF; cases hF
    rw [if_pos hr] at hF
    obtain ⟨m, rfl⟩ : ∃ m : Nat, x = m := ⟨x.toNat, by omega⟩
    have hm : m < a1.length := by omega
    have hlim := (hC0.ro 0 rfl).lt
    simp only [maxLen] at hlim
    rw [Int.toNat_natCast] at hF
    rw [decide_eq_false hx1]
    refine WL_nil ?_
    refine W_cond_f rfl ?_
    refine W_skip ?_
    refine nrm_normal ?_
    refine W_seq ?_
    refine W_seq_reg ?_
    refine WL_move rfl rfl ?_
    refine WL_add rfl rfl rfl ?_
    rw [show w64 ((m : Int) + 1) = ((m + 1 : Nat) : Int) by rw [w64_id (by omega) (by omega)]; omega]
    refine WL_assign rfl rfl ?_
    refine WL_nil ?_
    obtain ⟨b, c, rfl, hc1, hc2, hD0⟩ := hC1.del_open hm
    have hml : (a1.take m).length = m := by rw [List.length_take]; omega
    refine W_norm (fun l w => ∃ kept : List (Int × (List Int)), ∃ g : Nat, l = [(0, .slice (some ⟨b, 0, none⟩) a1.length c), (5, .int .i64 (kept.length : Int))] ∧ 0 < g ∧ kept.length + g = a1.length ∧ kept = rr ∧ Ctx Fs.flatten w0 w [Item.del b c kept g ([] : List (Int × (List Int)))]) ?_ ?_
    · refine W_block ?_
      refine W.sub (l' := [(0, .slice (some ⟨b, 0, none⟩) a1.length c), (1, (.func (.func 65) #[] #[(ptr pb1 0), (ptr pb2 0)])), (5, .int .i64 (m : Int)), (6, .int .i64 ((m + 1 : Nat) : Int))]) ?_ ⟨rfl, rfl, rfl, rfl, trivial⟩
      refine W_loop (fun k l w => ∃ kept : List (Int × (List Int)), ∃ g : Nat, ∃ rest : List (Int × (List Int)), l = [(0, .slice (some ⟨b, 0, none⟩) a1.length c), (1, (.func (.func 65) #[] #[(ptr pb1 0), (ptr pb2 0)])), (5, .int .i64 (kept.length : Int)), (6, .int .i64 ((kept.length + g : Nat) : Int))] ∧ 0 < g ∧ kept.length + g + rest.length = a1.length ∧ dfl (fun e => M.matches_c1 e ax1 ax2) kept rest = some rr ∧ k = rest.length ∧ Ctx Fs.flatten w0 w [Item.del b c kept g rest]) (a1.drop (m + 1)).length ⟨a1.take m, 1, a1.drop (m + 1), by rw [hml], by omega, by rw [hml, List.length_drop]; omega, hF, rfl, hD0⟩ ?_
      clear hF hD0
      rintro k1 _ w2 ⟨kept, g, rest, rfl, hg, hlen, hL, hk, hD⟩
      refine W_seq ?_
      refine W_seq_reg ?_
      refine WL_move rfl rfl ?_
      refine WL_move rfl rfl ?_
      refine WL_len_raw Try.underlying34 rfl rfl ?_
      refine WL_lss rfl rfl rfl ?_
      cases rest with
      | nil =>
        have hq := Option.some.inj hL
        simp only [List.length_nil, Nat.add_zero] at hlen
        rw [decide_eq_false (show ¬ ((kept.length + g : Nat) : Int) < (a1.length : Int) by omega)]
        refine WL_nil ?_
        refine W_cond_f rfl ?_
        refine W_exit ?_
        refine nrm_exit ?_
        refine nrm_exit ?_
        refine blk_exit ?_
        refine nrm_sub (l' := [(0, .slice (some ⟨b, 0, none⟩) a1.length c), (5, .int .i64 (kept.length : Int))]) ⟨rfl, rfl, trivial⟩ ?_
        exact ⟨kept, g, rfl, hg, hlen, hq, hD⟩
      | cons x rest =>
        simp only [List.length_cons] at hlen hk
        rw [decide_eq_true (show ((kept.length + g : Nat) : Int) < (a1.length : Int) by omega)]
        refine WL_nil ?_
        refine W_cond_t rfl ?_
        refine W_skip ?_
        refine nrm_normal ?_
        refine W_seq ?_
        refine W_block ?_
        refine W_seq_reg ?_
        refine WL_move rfl rfl ?_
        refine WL_move rfl rfl ?_
        refine WL_index_raw Try.underlying34 ty78 (show kept.length + g < a1.length by omega) rfl rfl rfl ?_
        obtain ⟨cs, hcs, hD1⟩ := hD.del_head
        obtain ⟨hro, row, T, hh, hrow⟩ := hD1.delh_row
        refine WL_load_raw ty78 hh (by rw [Nat.zero_add]; exact hrow) hcs rfl rfl ?_
        obtain ⟨e1, hce, _⟩ := ro_st78 hro
        obtain rfl := cells_of_agg (cs' := [(.int .i64 x.1), e1]) hce
        rw [show mkv (Rep.agg (Int × (List Int))) [(.int .i64 x.1), e1] = (.agg #[(.int .i64 x.1), e1]) from rfl]
        refine WL_alloc hD1 zero78 rfl rfl (fun b7 w3 hD2 hB2 => ?_)
        have phr := hD2.delh_ro (α := (Int × (List Int))) 1 rfl
        obtain ⟨pf0, phe, pg0⟩ := ro_st78 phr
        replace phe := cells_of_agg (cs := [(.int .i64 x.1), e1]) (cs' := [(.int .i64 x.1), pf0]) phe
        simp only [List.cons.injEq, and_true, true_and] at phe
        obtain rfl := phe
        refine WL_store_box_agg (cs' := [(.int .i64 x.1), e1]) (new := [(.int .i64 x.1), e1]) hD2 0 rfl rfl (by intro v hv; simp only [List.mem_cons, List.not_mem_nil, or_false] at hv; rcases hv with rfl | rfl; exact rfl; exact (ro_one pg0)) rfl Try.sizeOf78 rfl rfl (fun w4 hD3 => ?_)
        try dsimp only [List.set] at hD3
        refine WL_nil ?_
        refine W_seq_reg ?_
        refine WL_move rfl rfl ?_
        refine WL_load_box_agg [(.int .i64 x.1), e1] hD3 0 rfl rfl rfl Try.isAgg78 Try.sizeOf78 rfl rfl ?_
        have qhr := hD3.delh_ro (α := (Int × (List Int))) 1 rfl
        obtain ⟨qf0, qhe, qg0⟩ := ro_st78 qhr
        replace qhe := cells_of_agg (cs := [(.int .i64 x.1), e1]) (cs' := [(.int .i64 x.1), qf0]) qhe
        simp only [List.cons.injEq, and_true, true_and] at qhe
        obtain rfl := qhe
        obtain ⟨q, hq, hL⟩ := bind_some (show (M.matches_c1 x ax1 ax2).bind (fun b => dfl (fun e => M.matches_c1 e ax1 ax2) (if b then kept else kept ++ [x]) rest) = some rr from hL)
        refine WL_callv (cap := [(ptr pb1 0), (ptr pb2 0)]) Try.call65 rfl rfl rfl (c_M_matches_c1 x e1 qg0 pb1 ax1 (g1.now hD3.keep) pb2 ax2 (g2.now hD3.keep) q hq) ?_
        intro _ w5 hv2
        obtain ⟨rfl, hB5⟩ := res_bool hv2
        have hD4 := hD3.grow hB5
        refine WL_not rfl rfl ?_
        refine WL_nil ?_
        refine W_cond rfl (fun hq1 => ?_) (fun hq1 => ?_)
        · have hqf : q = false := by simpa using hq1
          rw [hqf] at hL
          rw [if_neg (by simp)] at hL
          refine W_seq_reg ?_
          refine WL_move rfl rfl ?_
          refine WL_move rfl rfl ?_
          refine WL_load_box_agg [(.int .i64 x.1), e1] hD4 0 rfl rfl rfl Try.isAgg78 Try.sizeOf78 rfl rfl ?_
          refine WL_index_raw Try.underlying34 ty78 (show kept.length < a1.length by omega) rfl rfl rfl ?_
          refine WL_store_del hD4.swap hg ty78 rfl rfl rfl (fun w6 hD5 => ?_)
          refine WL_nil ?_
          refine W_reg ?_
          refine WL_move rfl rfl ?_
          refine WL_add rfl rfl rfl ?_
          rw [show w64 ((kept.length : Int) + 1) = ((kept ++ [x]).length : Int) by rw [w64_id (by omega) (by omega), List.length_append]; rfl]
          refine WL_assign rfl rfl ?_
          refine WL_nil ?_
          refine blk_normal ?_
          refine nrm_normal ?_
          refine W_reg ?_
          refine WL_move rfl rfl ?_
          refine WL_add rfl rfl rfl ?_
          rw [show w64 (((kept.length + g : Nat) : Int) + 1) = (((kept ++ [x]).length + g : Nat) : Int) by rw [w64_id (by omega) (by omega), List.length_append]; simp only [List.length_cons, List.length_nil]; omega]
          refine WL_assign rfl rfl ?_
          refine WL_nil ?_
          refine nrm_sub (l' := [(0, .slice (some ⟨b, 0, none⟩) a1.length c), (1, (.func (.func 65) #[] #[(ptr pb1 0), (ptr pb2 0)])), (5, .int .i64 ((kept ++ [x]).length : Int)), (6, .int .i64 (((kept ++ [x]).length + g : Nat) : Int))]) ⟨rfl, rfl, rfl, rfl, trivial⟩ ?_
          exact ⟨rest.length, by omega, kept ++ [x], g, rest, rfl, hg, by rw [List.length_append]; simp only [List.length_cons, List.length_nil]; omega, hL, rfl, hD5.headN 1⟩
        · have hqt : q = true := by simpa using hq1
          rw [hqt] at hL
          rw [if_pos rfl] at hL
          refine W_skip ?_
          refine blk_normal ?_
          refine nrm_normal ?_
          refine W_reg ?_
          refine WL_move rfl rfl ?_
          refine WL_add rfl rfl rfl ?_
          rw [show w64 (((kept.length + g : Nat) : Int) + 1) = ((kept.length + (g + 1) : Nat) : Int) by rw [w64_id (by omega) (by omega)]; omega]
          refine WL_assign rfl rfl ?_
          refine WL_nil ?_
          refine nrm_sub (l' := [(0, .slice (some ⟨b, 0, none⟩) a1.length c), (1, (.func (.func 65) #[] #[(ptr pb1 0), (ptr pb2 0)])), (5, .int .i64 (kept.length : Int)), (6, .int .i64 ((kept.length + (g + 1) : Nat) : Int))]) ⟨rfl, rfl, rfl, rfl, trivial⟩ ?_
          have hD5 := (hD4.swap.headN 1).del_skip
          exact ⟨rest.length, by omega, kept, g + 1, rest, rfl, by omega, by omega, hL, rfl, hD5⟩
    · rintro l2 _ w8 hs2 ⟨kept, g, rfl, hg, hlen, rfl, hD⟩
      refine nrm_sub' hs2 ?_
      clear hs2
      refine W_seq_reg ?_
      refine WL_move rfl rfl ?_
      refine WL_move rfl rfl ?_
      refine WL_sl_l Try.underlying34 ty78 (show kept.length < c by omega) (show kept.length ≤ a1.length by omega) hc1 rfl rfl rfl ?_
      refine WL_clear_del hD Try.underlying34 ty78 zc78 (by intro v hv; simp only [List.mem_cons, List.not_mem_nil, or_false] at hv; rcases hv with rfl | rfl <;> rfl) hlen.symm rfl hg (fun w9 hD9 => ?_)
      refine WL_nil ?_
      refine W_seq_reg ?_
      refine WL_move rfl rfl ?_
      refine WL_move rfl rfl ?_
      refine WL_sl_h Try.underlying34 ty78 (hi := kept.length) (by omega) (by omega) rfl rfl rfl ?_
      refine WL_assign rfl rfl ?_
      refine WL_nil ?_
      refine W_ret ?_
      refine fn_ret1 rfl rfl ?_
      exact ⟨_, rfl, _, rfl, hD9⟩

theorem c_M_matches {w0 : World} (a1 : (List (Int × (List Int) × Int × Int × Int))) (u1 : Value) (g1 : RO [] w0 u1 a1) (a2 : (List (Int × (List Int)))) (u2 : Value) (g2 : RO [] w0 u2 a2) (a3 : (Int × (List Int))) (u3 : Value) (g3 : RO [] w0 u3 a3.2) (rr : (List (Int × (List Int)))) (hF : M.matches a1 a2 a3 = some rr) :
    Calls Try.prog 42 [u1, u2, (.agg #[(.int .i64 a3.1), u3])].toArray w0 fun e w' => ∃ v, e = .returned v ∧ Res w0 rr v w' := by
  refine calls_of_W Try.func42 rfl rfl ?_
  have hC0 := Ctx.start w0
  unfold M.matches at hF
  refine W_seq_reg ?_
  refine WL_box (cs := [(.int .i64 a3.1), u3]) hC0 rfl rfl rfl (fun b1 w1 hC1 hB1 => ?_)
  refine WL_assign rfl rfl ?_
  refine WL_nil ?_
  refine W_seq_reg ?_
  refine WL_move rfl rfl ?_
  refine WL_field Try.underlying35 rfl rfl (fun w => ⟨_, Try.sizeOf3 w⟩) rfl rfl ?_
  refine WL_load_box hC1 0 rfl rfl Try.isAgg3 rfl rfl ?_
  obtain ⟨x1, hx1, hF⟩ := bind_some hF
  refine WL_index Try.underlying41 ty70 g1 hx1 rfl rfl rfl (fun b2 o1 h1 => ?_)
  refine WL_load ty70 h1 hC1.keep rfl rfl (fun v1 h2 => ?_)
  obtain ⟨v2, rfl, h3⟩ := ro_st70 h2
  refine WL_alloc hC1 zero70 rfl rfl (fun b3 w2 hC2 hB2 => ?_)
  refine WL_store_box_agg (cs' := [(.int .i64 x1.1), v2, (.int .i64 x1.2.2.1), (.int .i64 x1.2.2.2.1), (.int .i64 x1.2.2.2.2)]) (new := [(.int .i64 x1.1), v2, (.int .i64 x1.2.2.1), (.int .i64 x1.2.2.2.1), (.int .i64 x1.2.2.2.2)]) hC2 0 rfl rfl (by intro v hv; simp only [List.mem_cons, List.not_mem_nil, or_false] at hv; rcases hv with rfl | rfl | rfl | rfl | rfl; exact rfl; exact (ro_one h3); exact rfl; exact rfl; exact rfl) rfl Try.sizeOf70 rfl rfl (fun w3 hC3 => ?_)
  try dsimp only [List.set] at hC3
  refine WL_nil ?_
  refine W_seq_reg ?_
  refine WL_move rfl rfl ?_
  obtain ⟨x2, hr1, hF⟩ := bind_some hF
  refine WL_call Try.call64 rfl rfl (c_M_copyFacts a2 u2 (g2.now hC3.keep) x2 hr1) ?_
  rintro v3 w4 ⟨hB3, F1, hv1, hn1, hb1⟩
  have hC4 := hC3.push hB3 (A := Item.own v3 x2) hv1 hn1 hb1
  refine WL_makeFunc rfl rfl ?_
  obtain ⟨x3, hr2, hF⟩ := bind_some hF
  obtain ⟨Fs1, hH1, hn2, hF1, hO1, hX1, hb2⟩ := Ctx.lend3 (As := [Item.box b3 [(.int .i64 x1.1), v2, (.int .i64 x1.2.2.1), (.int .i64 x1.2.2.2.1), (.int .i64 x1.2.2.2.2)], Item.box b1 [(.int .i64 a3.1), u3]]) [Item.own v3 (x2 : (List (Int × (List Int))))] hC4
  refine WL_call Try.call63 rfl rfl (c_Slices_DeleteFunc_Limpl_Fact_impl_Fact_M_matches_c1 x2 v3 b3 (x1.1, x1.2.1, x1.2.2.1, x1.2.2.2.1, x1.2.2.2.2) (roat_box (hX1 0 _ _ rfl) (repd_pair repd_int (repd_pair (repd_slice (RO.lent h3 hC4.keep hF1)) (repd_pair repd_int (repd_pair repd_int repd_int))))) b1 (a3.1, a3.2) (roat_box (hX1 1 _ _ rfl) (repd_pair repd_int (repd_slice (RO.lent g3 hC4.keep hF1)))) hH1 hn2 x3 hr2) ?_
  rintro v4 w5 ⟨_, rfl, hq1⟩
  have hC6 : Ctx [] w0 w5 [Item.own v4 (x3 : (List (Int × (List Int)))), Item.box b3 [(.int .i64 x1.1), v2, (.int .i64 x1.2.2.1), (.int .i64 x1.2.2.2.1), (.int .i64 x1.2.2.2.2)], Item.box b1 [(.int .i64 a3.1), u3]] := hb2 _ _ hq1
  refine WL_assign rfl rfl ?_
  refine WL_nil ?_
  refine W_ret ?_
  have hq2 := Option.some.inj hF
  subst hq2
  refine fn_ret1 rfl rfl ?_
  exact ⟨_, rfl, own_res hC6 0 rfl⟩

theorem c_M_PageAt {w0 : World} (a1 : (List (Int × (List Int)))) (u1 : Value) (g1 : RO [] w0 u1 a1) (a2 : Int) (a3 : Int) (rr : ((List (Int × (List Int))) × Int × Bool)) (hF : M.PageAt a1 a2 a3 = some rr) :
    Calls Try.prog 43 [u1, (.int .i64 a2), (.int .i64 a3)].toArray w0 fun e w' => ∃ v, e = .returned v ∧ Res3 w0 rr.1 rr.2.1 rr.2.2 v w' := by
  refine calls_of_W Try.func43 rfl rfl ?_
  have hC0 := Ctx.start w0
  unfold M.PageAt at hF
  refine W_seq_reg ?_
  refine WL_assign rfl rfl ?_
  refine WL_assign rfl rfl ?_
  refine WL_assign rfl rfl ?_
  refine WL_nil ?_
  refine W_seq ?_
  obtain ⟨r1, hr1, hF⟩ := bind_some hF
  refine W_cut (fun l w => ∃ x1 : Bool, x1 = r1 ∧ l = [(0, u1), (1, (.int .i64 a2)), (2, (.int .i64 a3)), (19, (.bool x1))] ∧ Below w0.heap.size w0 w ∧ Ctx [] w0 w []) ?_ ?_
  · refine W_reg ?_
    refine WL_move rfl rfl ?_
    obtain ⟨x2, hr2, hr1⟩ := bind_some hr1
    refine WL_call Try.call40 rfl rfl (c_M_isPage a3 x2 hr2) ?_
    intro _ w2 hv1
    obtain ⟨rfl, hB2⟩ := res_bool hv1
    have hC2 := hC0.grow hB2
    refine WL_not rfl rfl ?_
    refine WL_move rfl rfl ?_
    refine WL_fork (fun hc1 => ?_) (fun hc1 => ?_)
    · replace hr1 := ite_t hr1 hc1
      refine WL_guard_skip rfl rfl (by simp) rfl ?_
      refine WL_guard_skip rfl rfl (by simp) rfl ?_
      refine WL_guard_skip rfl rfl (by simp) rfl ?_
      refine WL_guard_skip rfl rfl (by simp) rfl ?_
      refine WL_guard_skip rfl rfl (by simp) rfl ?_
      refine WL_pick_t rfl rfl rfl ?_
      refine WL_nil ?_
      have hq1 := Option.some.inj hr1
      subst hq1
      refine nrm_sub (l' := [(0, u1), (1, (.int .i64 a2)), (2, (.int .i64 a3)), (19, (.bool true))]) ⟨rfl, rfl, rfl, rfl, trivial⟩ ?_
      exact ⟨true, rfl, rfl, (Keep.of hB2).below, hC2⟩
    · replace hr1 := ite_f hr1 hc1
      refine WL_guard rfl rfl ?_
      refine WL_move rfl rfl ?_
      refine WL_guard rfl rfl ?_
      refine WL_move rfl rfl ?_
      refine WL_guard rfl rfl ?_
      refine WL_len Try.underlying34 g1 rfl rfl ?_
      obtain ⟨x3, hr3, hr1⟩ := bind_some hr1
      refine WL_guard rfl rfl ?_
      refine WL_call Try.call41 rfl rfl (c_M_within a2 0 (List.length a1 : Int) x3 hr3) ?_
      intro _ w3 hv2
      obtain ⟨rfl, hB3⟩ := res_bool hv2
      have hC3 := hC2.grow hB3
      refine WL_guard rfl rfl ?_
      refine WL_not rfl rfl ?_
      refine WL_pick_f rfl rfl rfl ?_
      refine WL_nil ?_
      have hq2 := Option.some.inj hr1
      subst hq2
      refine nrm_sub (l' := [(0, u1), (1, (.int .i64 a2)), (2, (.int .i64 a3)), (19, (.bool (!x3)))]) ⟨rfl, rfl, rfl, rfl, trivial⟩ ?_
      exact ⟨(!x3), rfl, rfl, ((Keep.of hB2).then hB3).below, hC3⟩
  · rintro _ w1 ⟨x1, rfl, rfl, hB1, hC1⟩
    try dsimp only at hF
    refine W_cond rfl (fun hc2 => ?_) (fun hc2 => ?_)
    · replace hF := ite_t hF hc2
      refine W_seq_reg ?_
      refine WL_assign rfl rfl ?_
      refine WL_assign rfl rfl ?_
      refine WL_assign rfl rfl ?_
      refine WL_nil ?_
      refine W_ret ?_
      refine nrm_ret ?_
      have hq3 := Option.some.inj hF
      subst hq3
      refine fn_ret3 rfl rfl rfl rfl ?_
      have hC4 := hC1.triv (bool_val (false))
      have hC5 := hC4.triv (int_val (0))
      have hC6 := hC5.triv (nil_val (α := (Int × (List Int))))
      exact ⟨_, rfl, res3_of hC6⟩
    · replace hF := ite_f hF hc2
      refine W_skip ?_
      refine nrm_normal ?_
      refine W_seq_reg ?_
      refine WL_move rfl rfl ?_
      refine WL_len Try.underlying34 g1 rfl rfl ?_
      refine WL_move rfl rfl ?_
      refine WL_move rfl rfl ?_
      refine WL_add rfl rfl rfl ?_
      refine WL_min rfl rfl rfl ?_
      refine WL_assign rfl rfl ?_
      refine WL_nil ?_
      refine W_seq_reg ?_
      refine WL_move rfl rfl ?_
      refine WL_move rfl rfl ?_
      refine WL_move rfl rfl ?_
      obtain ⟨x4, hx1, hF⟩ := bind_some hF
      refine WL_slice_lh Try.underlying34 ty78 g1 hx1 rfl rfl rfl rfl (fun v1 h1 => ?_)
      obtain ⟨x5, hr4, hF⟩ := bind_some hF
      refine WL_call Try.call64 rfl rfl (c_M_copyFacts x4 v1 (h1.now hC1.keep) x5 hr4) ?_
      rintro v2 w4 ⟨hB4, F1, hv3, hn1, hb1⟩
      have hC7 := hC1.push hB4 (A := Item.own v2 x5) hv3 hn1 hb1
      refine WL_move rfl rfl ?_
      refine WL_assign rfl rfl ?_
      refine WL_assign rfl rfl ?_
      refine WL_assign rfl rfl ?_
      refine WL_nil ?_
      refine W_ret ?_
      have hq4 := Option.some.inj hF
      subst hq4
      refine fn_ret3 rfl rfl rfl rfl ?_
      have hC8 := hC7.triv (bool_val (true))
      have hC9 := hC8.triv (int_val (if (w64 (a2 + a3)) < (List.length a1 : Int) then w64 (a2 + a3) else (List.length a1 : Int)))
      have hC10 : Ctx [] w0 _ [Item.own v2 (x5 : (List (Int × (List Int)))), Item.own (.int .i64 (if (w64 (a2 + a3)) < (List.length a1 : Int) then w64 (a2 + a3) else (List.length a1 : Int))) (if (w64 (a2 + a3)) < (List.length a1 : Int) then w64 (a2 + a3) else (List.length a1 : Int) : Int), Item.own (.bool true) (true : Bool)] := hC9.front 2 rfl
      exact ⟨_, rfl, res3_of hC10⟩

theorem c_M_NextPage {w0 : World} (a1 : (List Int)) (u1 : Value) (g1 : RO [] w0 u1 a1) (a2 : (List (Int × (List Int) × Int × Int × Int))) (u2 : Value) (g2 : RO [] w0 u2 a2) (a3 : ((List (Int × (List Int))) × Int)) (u3 : Value) (g3 : RO [] w0 u3 a3.1) (a4 : ((Int × (List Int)) × Int × Int)) (u4 : Value) (g4 : RO [] w0 u4 a4.1.2) (a5 : Int) (rr : ((List (Int × (List Int))) × ((Int × (List Int)) × Int × Int) × Int)) (hF : M.NextPage a1 a2 a3 a4 a5 = some rr) :
    Calls Try.prog 12 [u1, u2, (.agg #[u3, (.int .i64 a3.2)]), (.agg #[(.int .i64 a4.1.1), u4, (.int .i64 a4.2.1), (.int .i64 a4.2.2)]), (.int .i64 a5)].toArray w0 fun e w' => ∃ v, e = .returned v ∧ Res3 w0 rr.1 rr.2.1 rr.2.2 v w' := by
  refine calls_of_W Try.func12 rfl rfl ?_
  have hC0 := Ctx.start w0
  unfold M.NextPage at hF
  refine W_seq_reg ?_
  refine WL_box (cs := [u3, (.int .i64 a3.2)]) hC0 rfl rfl rfl (fun b1 w1 hC1 hB1 => ?_)
  refine WL_box (cs := [(.int .i64 a4.1.1), u4, (.int .i64 a4.2.1), (.int .i64 a4.2.2)]) hC1 rfl rfl rfl (fun b2 w2 hC2 hB2 => ?_)
  refine WL_assign rfl rfl ?_
  refine WL_alloc hC2 zero37 rfl rfl (fun b3 w3 hC3 hB3 => ?_)
  refine WL_assign rfl rfl ?_
  refine WL_nil ?_
  refine W_seq_reg ?_
  refine WL_load_box_agg [(.int .i64 a4.1.1), u4, (.int .i64 a4.2.1), (.int .i64 a4.2.2)] hC3 1 rfl rfl rfl Try.isAgg37 Try.sizeOf37 rfl rfl ?_
  obtain ⟨x1, hr1, hF⟩ := bind_some hF
  refine WL_call Try.call37 rfl rfl (c_M_copyCursor ((a4.1.1, a4.1.2), a4.2.1, a4.2.2) u4 (g4.now hC3.keep) x1 hr1) ?_
  rintro v1 w4 ⟨hB4, F1, hv1, hn1, hb1⟩
  have hC4 := hC3.push hB4 (A := Item.own v1 x1) hv1 hn1 hb1
  obtain ⟨v2, rfl, hC5⟩ := st37_own hC4
  refine WL_alloc hC5 zero37 rfl rfl (fun b4 w5 hC6 hB5 => ?_)
  refine WL_store_box_agg (cs' := [(.int .i64 x1.1.1), v2, (.int .i64 x1.2.1), (.int .i64 x1.2.2)]) (new := [(.int .i64 x1.1.1), v2, (.int .i64 x1.2.1), (.int .i64 x1.2.2)]) hC6 0 rfl rfl (by intro v hv; simp only [List.mem_cons, List.not_mem_nil, or_false] at hv; rcases hv with rfl | rfl | rfl | rfl; exact rfl; exact (ro_one (hC6.ro 1 rfl)); exact rfl; exact rfl) rfl Try.sizeOf37 rfl rfl (fun w6 hC7 => ?_)
  try dsimp only [List.set] at hC7
  refine WL_nil ?_
  refine W_seq ?_
  refine W_block ?_
  obtain ⟨r1, hr2, hF⟩ := bind_some hF
  refine W_cut (fun l w => ∃ x2 : Bool, x2 = r1 ∧ l = [(1, u2), (4, (.int .i64 a5)), (7, (ptr b1 0)), (8, (ptr b2 0)), (11, (ptr b3 0)), (13, (ptr b4 0)), (20, (.bool x2))] ∧ Below w6.heap.size w6 w ∧ Ctx [] w0 w [Item.box b4 [(.int .i64 x1.1.1), v2, (.int .i64 x1.2.1), (.int .i64 x1.2.2)], Item.own v2 (x1.1.2 : (List Int)), Item.box b3 [(.int .i64 0), (.slice none 0 0), (.int .i64 0), (.int .i64 0)], Item.box b2 [(.int .i64 a4.1.1), u4, (.int .i64 a4.2.1), (.int .i64 a4.2.2)], Item.box b1 [u3, (.int .i64 a3.2)]]) ?_ ?_
  · refine W_reg ?_
    refine WL_move rfl rfl ?_
    refine WL_load_box_agg [u3, (.int .i64 a3.2)] hC7 4 rfl rfl rfl Try.isAgg44 Try.sizeOf44 rfl rfl ?_
    obtain ⟨x3, hr3, hr2⟩ := bind_some hr2
    refine WL_call Try.call38 rfl rfl (c_M_IsSource a1 u1 (g1.now hC7.keep) (a3.1, a3.2) u3 (g3.now hC7.keep) x3 hr3) ?_
    intro _ w8 hv2
    obtain ⟨rfl, hB7⟩ := res_bool hv2
    have hC9 := hC7.grow hB7
    refine WL_not rfl rfl ?_
    refine WL_move rfl rfl ?_
    refine WL_fork (fun hc1 => ?_) (fun hc1 => ?_)
    · replace hr2 := ite_t hr2 hc1
      refine WL_guard_skip rfl rfl (by simp) rfl ?_
      refine WL_guard_skip rfl rfl (by simp) rfl ?_
      refine WL_guard_skip rfl rfl (by simp) rfl ?_
      refine WL_guard_skip rfl rfl (by simp) rfl ?_
      refine WL_guard_skip rfl rfl (by simp) rfl ?_
      refine WL_guard_skip rfl rfl (by simp) rfl ?_
      refine WL_pick_t rfl rfl rfl ?_
      refine WL_move rfl rfl ?_
      refine WL_guard_skip rfl rfl (by simp) rfl ?_
      refine WL_guard_skip rfl rfl (by simp) rfl ?_
      refine WL_guard_skip rfl rfl (by simp) rfl ?_
      refine WL_pick_t rfl rfl rfl ?_
      refine WL_move rfl rfl ?_
      refine WL_guard_skip rfl rfl (by simp) rfl ?_
      refine WL_guard_skip rfl rfl (by simp) rfl ?_
      refine WL_guard_skip rfl rfl (by simp) rfl ?_
      refine WL_guard_skip rfl rfl (by simp) rfl ?_
      refine WL_pick_t rfl rfl rfl ?_
      refine WL_assign rfl rfl ?_
      refine WL_nil ?_
      have hq1 := Option.some.inj hr2
      subst hq1
      refine nrm_sub (l' := [(1, u2), (4, (.int .i64 a5)), (7, (ptr b1 0)), (8, (ptr b2 0)), (11, (ptr b3 0)), (13, (ptr b4 0)), (20, (.bool true))]) ⟨rfl, rfl, rfl, rfl, rfl, rfl, rfl, trivial⟩ ?_
      exact ⟨true, rfl, rfl, (Keep.of hB7).below, hC9⟩
    · replace hr2 := ite_f hr2 hc1
      refine WL_guard rfl rfl ?_
      refine WL_move rfl rfl ?_
      refine WL_guard rfl rfl ?_
      refine WL_move rfl rfl ?_
      refine WL_guard rfl rfl ?_
      refine WL_field Try.underlying37 rfl rfl (fun w => ⟨_, Try.sizeOf35 w⟩) rfl rfl ?_
      refine WL_guard rfl rfl ?_
      refine WL_load_box_agg [(.int .i64 a4.1.1), u4] hC9 3 rfl rfl rfl Try.isAgg35 Try.sizeOf35 rfl rfl ?_
      obtain ⟨x4, hr4, hr2⟩ := bind_some hr2
      refine WL_guard rfl rfl ?_
      refine WL_call Try.call39 rfl rfl (c_M_IsAccess a1 u1 (g1.now hC9.keep) a2 u2 (g2.now hC9.keep) (a4.1.1, a4.1.2) u4 (g4.now hC9.keep) x4 hr4) ?_
      intro _ w9 hv3
      obtain ⟨rfl, hB8⟩ := res_bool hv3
      have hC10 := hC9.grow hB8
      refine WL_guard rfl rfl ?_
      refine WL_not rfl rfl ?_
      refine WL_pick_f rfl rfl rfl ?_
      refine WL_move rfl rfl ?_
      refine WL_fork (fun hc2 => ?_) (fun hc2 => ?_)
      · replace hr2 := ite_t hr2 hc2
        refine WL_guard_skip rfl rfl (by simp) rfl ?_
        refine WL_guard_skip rfl rfl (by simp) rfl ?_
        refine WL_guard_skip rfl rfl (by simp) rfl ?_
        refine WL_pick_t rfl rfl rfl ?_
        refine WL_move rfl rfl ?_
        refine WL_guard_skip rfl rfl (by simp) rfl ?_
        refine WL_guard_skip rfl rfl (by simp) rfl ?_
        refine WL_guard_skip rfl rfl (by simp) rfl ?_
        refine WL_guard_skip rfl rfl (by simp) rfl ?_
        refine WL_pick_t rfl rfl rfl ?_
        refine WL_assign rfl rfl ?_
        refine WL_nil ?_
        have hq2 := Option.some.inj hr2
        subst hq2
        refine nrm_sub (l' := [(1, u2), (4, (.int .i64 a5)), (7, (ptr b1 0)), (8, (ptr b2 0)), (11, (ptr b3 0)), (13, (ptr b4 0)), (20, (.bool true))]) ⟨rfl, rfl, rfl, rfl, rfl, rfl, rfl, trivial⟩ ?_
        exact ⟨true, rfl, rfl, ((Keep.of hB7).then hB8).below, hC10⟩
      · replace hr2 := ite_f hr2 hc2
        refine WL_guard rfl rfl ?_
        refine WL_move rfl rfl ?_
        obtain ⟨x5, hr5, hr2⟩ := bind_some hr2
        refine WL_guard rfl rfl ?_
        refine WL_call Try.call40 rfl rfl (c_M_isPage a5 x5 hr5) ?_
        intro _ w10 hv4
        obtain ⟨rfl, hB9⟩ := res_bool hv4
        have hC11 := hC10.grow hB9
        refine WL_guard rfl rfl ?_
        refine WL_not rfl rfl ?_
        refine WL_pick_f rfl rfl rfl ?_
        refine WL_move rfl rfl ?_
        refine WL_fork (fun hc3 => ?_) (fun hc3 => ?_)
        · replace hr2 := ite_t hr2 hc3
          refine WL_guard_skip rfl rfl (by simp) rfl ?_
          refine WL_guard_skip rfl rfl (by simp) rfl ?_
          refine WL_guard_skip rfl rfl (by simp) rfl ?_
          refine WL_guard_skip rfl rfl (by simp) rfl ?_
          refine WL_pick_t rfl rfl rfl ?_
          refine WL_assign rfl rfl ?_
          refine WL_nil ?_
          have hq3 := Option.some.inj hr2
          subst hq3
          refine nrm_sub (l' := [(1, u2), (4, (.int .i64 a5)), (7, (ptr b1 0)), (8, (ptr b2 0)), (11, (ptr b3 0)), (13, (ptr b4 0)), (20, (.bool true))]) ⟨rfl, rfl, rfl, rfl, rfl, rfl, rfl, trivial⟩ ?_
          exact ⟨true, rfl, rfl, (((Keep.of hB7).then hB8).then hB9).below, hC11⟩
        · replace hr2 := ite_f hr2 hc3
          refine WL_guard rfl rfl ?_
          refine WL_field Try.underlying37 rfl rfl (fun w => ⟨_, Try.sizeOf3 w⟩) rfl rfl ?_
          refine WL_guard rfl rfl ?_
          refine WL_load_box hC11 3 rfl rfl Try.isAgg3 rfl rfl ?_
          obtain ⟨x6, hr6, hr2⟩ := bind_some hr2
          refine WL_guard rfl rfl ?_
          refine WL_call Try.call41 rfl rfl (c_M_within a4.2.1 0 1000 x6 hr6) ?_
          intro _ w11 hv5
          obtain ⟨rfl, hB10⟩ := res_bool hv5
          have hC12 := hC11.grow hB10
          refine WL_guard rfl rfl ?_
          refine WL_not rfl rfl ?_
          refine WL_pick_f rfl rfl rfl ?_
          refine WL_assign rfl rfl ?_
          refine WL_nil ?_
          have hq4 := Option.some.inj hr2
          subst hq4
          refine nrm_sub (l' := [(1, u2), (4, (.int .i64 a5)), (7, (ptr b1 0)), (8, (ptr b2 0)), (11, (ptr b3 0)), (13, (ptr b4 0)), (20, (.bool (!x6)))]) ⟨rfl, rfl, rfl, rfl, rfl, rfl, rfl, trivial⟩ ?_
          exact ⟨(!x6), rfl, rfl, ((((Keep.of hB7).then hB8).then hB9).then hB10).below, hC12⟩
  · rintro _ w7 ⟨x2, rfl, rfl, hB6, hC8⟩
    try dsimp only at hF
    refine W_cond rfl (fun hc4 => ?_) (fun hc4 => ?_)
    · replace hF := ite_t hF hc4
      refine W_seq ?_
      refine W_drawn 4 rfl hmix (fun w12 hB11 => ?_)
      have hC13 := hC8.grow hB11
      refine WA_take 1 rfl (by kernel_rfl) (by kernel_rfl) (by kernel_rfl) rfl (fl_assign rfl) ?_
      refine WL_assign rfl rfl ?_
      refine WL_nil ?_
      refine WA_one 0 (by kernel_rfl) rfl ?_
      refine WL_load_box_agg [(.int .i64 x1.1.1), v2, (.int .i64 x1.2.1), (.int .i64 x1.2.2)] hC13 0 rfl rfl rfl Try.isAgg37 Try.sizeOf37 rfl rfl ?_
      refine WL_nil ?_
      refine WA_one 2 (by kernel_rfl) rfl ?_
      refine WL_store_box_agg (cs' := [(.int .i64 x1.1.1), v2, (.int .i64 x1.2.1), (.int .i64 x1.2.2)]) (new := [(.int .i64 x1.1.1), v2, (.int .i64 x1.2.1), (.int .i64 x1.2.2)]) hC13 2 rfl rfl (by intro v hv; simp only [List.mem_cons, List.not_mem_nil, or_false] at hv; rcases hv with rfl | rfl | rfl | rfl; exact rfl; exact (ro_one (hC13.ro 1 rfl)); exact rfl; exact rfl) rfl Try.sizeOf37 rfl rfl (fun w13 hC14 => ?_)
      try dsimp only [List.set] at hC14
      refine WL_nil ?_
      refine WA_take 3 rfl (by kernel_rfl) (by kernel_rfl) (by kernel_rfl) rfl (fl_assign rfl) ?_
      refine WL_assign rfl rfl ?_
      refine WL_nil ?_
      refine WA_done (by kernel_rfl) ?_
      refine nrm_normal ?_
      refine W_ret ?_
      refine blk_ret ?_
      refine nrm_ret ?_
      have hq5 := Option.some.inj hF
      subst hq5
      refine fn_retG3 rfl (rv_tmp rfl) (rv_cell_agg (cs' := [(.int .i64 x1.1.1), v2, (.int .i64 x1.2.1), (.int .i64 x1.2.2)]) hC14 (i := 2) rfl rfl rfl Try.isAgg37 Try.sizeOf37 rfl) (rv_tmp rfl) ?_
      have hC15 := hC14.triv (int_val (3))
      have hC17 : Ctx [] w0 _ [Item.own v2 (x1.1.2 : (List Int)), Item.own (.int .i64 3) (3 : Int), Item.box b4 [(.int .i64 x1.1.1), v2, (.int .i64 x1.2.1), (.int .i64 x1.2.2)], Item.box b3 [(.int .i64 x1.1.1), v2, (.int .i64 x1.2.1), (.int .i64 x1.2.2)], Item.box b2 [(.int .i64 a4.1.1), u4, (.int .i64 a4.2.1), (.int .i64 a4.2.2)], Item.box b1 [u3, (.int .i64 a3.2)]] := hC15.front 2 rfl
      have hC16 := own_st37 x1.1.1 v2 x1.1.2 x1.2.1 x1.2.2 hC17
      have hC18 := hC16.triv (nil_val (α := (Int × (List Int))))
      exact ⟨_, rfl, res3_of hC18⟩
    · replace hF := ite_f hF hc4
      refine W_seq_reg ?_
      refine WL_field Try.underlying37 rfl rfl (fun w => ⟨_, Try.sizeOf3 w⟩) rfl rfl ?_
      refine WL_load_box hC8 3 rfl rfl Try.isAgg3 rfl rfl ?_
      refine WL_field Try.underlying44 rfl rfl (fun w => ⟨_, Try.sizeOf3 w⟩) rfl rfl ?_
      refine WL_load_box hC8 4 rfl rfl Try.isAgg3 rfl rfl ?_
      refine WL_neq rfl rfl rfl ?_
      refine WL_assign rfl rfl ?_
      refine WL_nil ?_
      refine W_cond rfl (fun hc5 => ?_) (fun hc5 => ?_)
      · replace hF := ite_t hF hc5
        refine W_seq ?_
        refine W_drawn 4 rfl hmix (fun w14 hB12 => ?_)
        have hC19 := hC8.grow hB12
        refine WA_take 1 rfl (by kernel_rfl) (by kernel_rfl) (by kernel_rfl) rfl (fl_assign rfl) ?_
        refine WL_assign rfl rfl ?_
        refine WL_nil ?_
        refine WA_one 0 (by kernel_rfl) rfl ?_
        refine WL_load_box_agg [(.int .i64 x1.1.1), v2, (.int .i64 x1.2.1), (.int .i64 x1.2.2)] hC19 0 rfl rfl rfl Try.isAgg37 Try.sizeOf37 rfl rfl ?_
        refine WL_nil ?_
        refine WA_one 2 (by kernel_rfl) rfl ?_
        refine WL_store_box_agg (cs' := [(.int .i64 x1.1.1), v2, (.int .i64 x1.2.1), (.int .i64 x1.2.2)]) (new := [(.int .i64 x1.1.1), v2, (.int .i64 x1.2.1), (.int .i64 x1.2.2)]) hC19 2 rfl rfl (by intro v hv; simp only [List.mem_cons, List.not_mem_nil, or_false] at hv; rcases hv with rfl | rfl | rfl | rfl; exact rfl; exact (ro_one (hC19.ro 1 rfl)); exact rfl; exact rfl) rfl Try.sizeOf37 rfl rfl (fun w15 hC20 => ?_)
        try dsimp only [List.set] at hC20
        refine WL_nil ?_
        refine WA_take 3 rfl (by kernel_rfl) (by kernel_rfl) (by kernel_rfl) rfl (fl_assign rfl) ?_
        refine WL_assign rfl rfl ?_
        refine WL_nil ?_
        refine WA_done (by kernel_rfl) ?_
        refine nrm_normal ?_
        refine W_ret ?_
        refine blk_ret ?_
        refine nrm_ret ?_
        have hq6 := Option.some.inj hF
        subst hq6
        refine fn_retG3 rfl (rv_tmp rfl) (rv_cell_agg (cs' := [(.int .i64 x1.1.1), v2, (.int .i64 x1.2.1), (.int .i64 x1.2.2)]) hC20 (i := 2) rfl rfl rfl Try.isAgg37 Try.sizeOf37 rfl) (rv_tmp rfl) ?_
        have hC21 := hC20.triv (int_val (2))
        have hC23 : Ctx [] w0 _ [Item.own v2 (x1.1.2 : (List Int)), Item.own (.int .i64 2) (2 : Int), Item.box b4 [(.int .i64 x1.1.1), v2, (.int .i64 x1.2.1), (.int .i64 x1.2.2)], Item.box b3 [(.int .i64 x1.1.1), v2, (.int .i64 x1.2.1), (.int .i64 x1.2.2)], Item.box b2 [(.int .i64 a4.1.1), u4, (.int .i64 a4.2.1), (.int .i64 a4.2.2)], Item.box b1 [u3, (.int .i64 a3.2)]] := hC21.front 2 rfl
        have hC22 := own_st37 x1.1.1 v2 x1.1.2 x1.2.1 x1.2.2 hC23
        have hC24 := hC22.triv (nil_val (α := (Int × (List Int))))
        exact ⟨_, rfl, res3_of hC24⟩
      · replace hF := ite_f hF hc5
        refine W_skip ?_
        refine blk_normal ?_
        refine nrm_normal ?_
        refine W_seq_reg ?_
        refine WL_move rfl rfl ?_
        refine WL_field Try.underlying44 rfl rfl (fun w => ⟨_, Try.sizeOf34 w⟩) rfl rfl ?_
        refine WL_load_box hC8 4 rfl rfl Try.isAgg34 rfl rfl ?_
        refine WL_field Try.underlying37 rfl rfl (fun w => ⟨_, Try.sizeOf35 w⟩) rfl rfl ?_
        refine WL_load_box_agg [(.int .i64 a4.1.1), u4] hC8 3 rfl rfl rfl Try.isAgg35 Try.sizeOf35 rfl rfl ?_
        obtain ⟨x7, hr7, hF⟩ := bind_some hF
        refine WL_call Try.call42 rfl rfl (c_M_matches a2 u2 (g2.now hC8.keep) a3.1 u3 (g3.now hC8.keep) (a4.1.1, a4.1.2) u4 (g4.now hC8.keep) x7 hr7) ?_
        rintro v3 w16 ⟨hB13, F2, hv6, hn2, hb2⟩
        have hC25 := hC8.push hB13 (A := Item.own v3 x7) hv6 hn2 hb2
        refine WL_assign rfl rfl ?_
        refine WL_nil ?_
        refine W_seq_reg ?_
        refine WL_move rfl rfl ?_
        refine WL_field Try.underlying37 rfl rfl (fun w => ⟨_, Try.sizeOf3 w⟩) rfl rfl ?_
        refine WL_load_box hC25 4 rfl rfl Try.isAgg3 rfl rfl ?_
        refine WL_move rfl rfl ?_
        obtain ⟨x8, hr8, hF⟩ := bind_some hF
        refine WL_call Try.call43 rfl rfl (c_M_PageAt x7 v3 ((hC25.ro 0 rfl).now (Keep.refl _ _)) a4.2.1 a5 x8 hr8) ?_
        rintro _ w17 ⟨hB14, v4, v5, v6, F3, F4, F5, rfl, hv7, hv8, hv9, hn3, hb3⟩
        obtain ⟨rfl, rfl⟩ := val_int hv8
        obtain ⟨rfl, rfl⟩ := val_bool hv9
        have hC26 := hC25.pushL hB14 (Bs := [Item.own v4 x8.1]) (Fs := [F3]) ⟨F3, _, rfl, hv7, rfl⟩ (by simpa using hn3) (fun b h => hb3 b (by simpa using h))
        refine WL_move rfl rfl ?_
        refine WL_extract rfl rfl rfl ?_
        refine WL_extract rfl rfl rfl ?_
        refine WL_extract rfl rfl rfl ?_
        refine WL_assign rfl rfl ?_
        refine WL_assign rfl rfl ?_
        refine WL_assign rfl rfl ?_
        refine WL_nil ?_
        refine W_seq ?_
        refine W_seq_reg ?_
        refine WL_move rfl rfl ?_
        refine WL_not rfl rfl ?_
        refine WL_nil ?_
        refine W_cond rfl (fun hc6 => ?_) (fun hc6 => ?_)
        · replace hF := ite_t hF hc6
          refine W_seq ?_
          refine W_drawn 4 rfl hmix (fun w18 hB15 => ?_)
          have hC27 := hC26.grow hB15
          refine WA_take 1 rfl (by kernel_rfl) (by kernel_rfl) (by kernel_rfl) rfl (fl_assign rfl) ?_
          refine WL_assign rfl rfl ?_
          refine WL_nil ?_
          refine WA_one 0 (by kernel_rfl) rfl ?_
          refine WL_load_box_agg [(.int .i64 x1.1.1), v2, (.int .i64 x1.2.1), (.int .i64 x1.2.2)] hC27 2 rfl rfl rfl Try.isAgg37 Try.sizeOf37 rfl rfl ?_
          refine WL_nil ?_
          refine WA_one 2 (by kernel_rfl) rfl ?_
          refine WL_store_box_agg (cs' := [(.int .i64 x1.1.1), v2, (.int .i64 x1.2.1), (.int .i64 x1.2.2)]) (new := [(.int .i64 x1.1.1), v2, (.int .i64 x1.2.1), (.int .i64 x1.2.2)]) hC27 4 rfl rfl (by intro v hv; simp only [List.mem_cons, List.not_mem_nil, or_false] at hv; rcases hv with rfl | rfl | rfl | rfl; exact rfl; exact (ro_one (hC27.ro 3 rfl)); exact rfl; exact rfl) rfl Try.sizeOf37 rfl rfl (fun w19 hC28 => ?_)
          try dsimp only [List.set] at hC28
          refine WL_nil ?_
          refine WA_take 3 rfl (by kernel_rfl) (by kernel_rfl) (by kernel_rfl) rfl (fl_assign rfl) ?_
          refine WL_assign rfl rfl ?_
          refine WL_nil ?_
          refine WA_done (by kernel_rfl) ?_
          refine nrm_normal ?_
          refine W_ret ?_
          refine nrm_ret ?_
          have hq7 := Option.some.inj hF
          subst hq7
          refine fn_retG3 rfl (rv_tmp rfl) (rv_cell_agg (cs' := [(.int .i64 x1.1.1), v2, (.int .i64 x1.2.1), (.int .i64 x1.2.2)]) hC28 (i := 4) rfl rfl rfl Try.isAgg37 Try.sizeOf37 rfl) (rv_tmp rfl) ?_
          have hC29 := hC28.triv (int_val (3))
          have hC31 : Ctx [] w0 _ [Item.own v2 (x1.1.2 : (List Int)), Item.own (.int .i64 3) (3 : Int), Item.own v4 (x8.1 : (List (Int × (List Int)))), Item.own v3 (x7 : (List (Int × (List Int)))), Item.box b4 [(.int .i64 x1.1.1), v2, (.int .i64 x1.2.1), (.int .i64 x1.2.2)], Item.box b3 [(.int .i64 x1.1.1), v2, (.int .i64 x1.2.1), (.int .i64 x1.2.2)], Item.box b2 [(.int .i64 a4.1.1), u4, (.int .i64 a4.2.1), (.int .i64 a4.2.2)], Item.box b1 [u3, (.int .i64 a3.2)]] := hC29.front 4 rfl
          have hC30 := own_st37 x1.1.1 v2 x1.1.2 x1.2.1 x1.2.2 hC31
          have hC32 := hC30.triv (nil_val (α := (Int × (List Int))))
          exact ⟨_, rfl, res3_of hC32⟩
        · replace hF := ite_f hF hc6
          refine W_skip ?_
          refine nrm_normal ?_
          refine W_seq_reg ?_
          refine WL_move rfl rfl ?_
          refine WL_field Try.underlying37 rfl rfl (fun w => ⟨_, Try.sizeOf3 w⟩) rfl rfl ?_
          refine WL_store_box (cs' := [(.int .i64 x1.1.1), v2, (.int .i64 x8.2.1), (.int .i64 x1.2.2)]) hC26 2 rfl rfl rfl rfl Try.sizeOf3 rfl rfl (fun w20 hC33 => ?_)
          try dsimp only [List.set] at hC33
          refine WL_nil ?_
          refine W_seq ?_
          refine W_seq_reg ?_
          refine WL_move rfl rfl ?_
          refine WL_move rfl rfl ?_
          refine WL_len Try.underlying34 (hC33.ro 1 rfl) rfl rfl ?_
          refine WL_eql rfl rfl rfl ?_
          refine WL_nil ?_
          refine W_cond rfl (fun hc7 => ?_) (fun hc7 => ?_)
          · replace hF := ite_t hF hc7
            refine W_seq ?_
            refine W_drawn 5 rfl hmix (fun w21 hB16 => ?_)
            have hC34 := hC33.grow hB16
            refine WA_take 0 rfl (by kernel_rfl) (by kernel_rfl) (by kernel_rfl) rfl (fl_move rfl) ?_
            refine WL_move rfl rfl ?_
            refine WL_nil ?_
            refine WA_take 2 rfl (by kernel_rfl) (by kernel_rfl) (by kernel_rfl) rfl (fl_assign rfl) ?_
            refine WL_assign rfl rfl ?_
            refine WL_nil ?_
            refine WA_one 1 (by kernel_rfl) rfl ?_
            refine WL_load_box_agg [(.int .i64 x1.1.1), v2, (.int .i64 x8.2.1), (.int .i64 x1.2.2)] hC34 2 rfl rfl rfl Try.isAgg37 Try.sizeOf37 rfl rfl ?_
            refine WL_nil ?_
            refine WA_one 3 (by kernel_rfl) rfl ?_
            refine WL_store_box_agg (cs' := [(.int .i64 x1.1.1), v2, (.int .i64 x8.2.1), (.int .i64 x1.2.2)]) (new := [(.int .i64 x1.1.1), v2, (.int .i64 x8.2.1), (.int .i64 x1.2.2)]) hC34 4 rfl rfl (by intro v hv; simp only [List.mem_cons, List.not_mem_nil, or_false] at hv; rcases hv with rfl | rfl | rfl | rfl; exact rfl; exact (ro_one (hC34.ro 3 rfl)); exact rfl; exact rfl) rfl Try.sizeOf37 rfl rfl (fun w22 hC35 => ?_)
            try dsimp only [List.set] at hC35
            refine WL_nil ?_
            refine WA_take 4 rfl (by kernel_rfl) (by kernel_rfl) (by kernel_rfl) rfl (fl_assign rfl) ?_
            refine WL_assign rfl rfl ?_
            refine WL_nil ?_
            refine WA_done (by kernel_rfl) ?_
            refine nrm_normal ?_
            refine W_ret ?_
            refine nrm_ret ?_
            have hq8 := Option.some.inj hF
            subst hq8
            refine fn_retG3 rfl (rv_tmp rfl) (rv_cell_agg (cs' := [(.int .i64 x1.1.1), v2, (.int .i64 x8.2.1), (.int .i64 x1.2.2)]) hC35 (i := 4) rfl rfl rfl Try.isAgg37 Try.sizeOf37 rfl) (rv_tmp rfl) ?_
            have hC36 := hC35.triv (int_val (1))
            have hC38 : Ctx [] w0 _ [Item.own v2 (x1.1.2 : (List Int)), Item.own (.int .i64 1) (1 : Int), Item.own v4 (x8.1 : (List (Int × (List Int)))), Item.own v3 (x7 : (List (Int × (List Int)))), Item.box b4 [(.int .i64 x1.1.1), v2, (.int .i64 x8.2.1), (.int .i64 x1.2.2)], Item.box b3 [(.int .i64 x1.1.1), v2, (.int .i64 x8.2.1), (.int .i64 x1.2.2)], Item.box b2 [(.int .i64 a4.1.1), u4, (.int .i64 a4.2.1), (.int .i64 a4.2.2)], Item.box b1 [u3, (.int .i64 a3.2)]] := hC36.front 4 rfl
            have hC37 := own_st37 x1.1.1 v2 x1.1.2 x8.2.1 x1.2.2 hC38
            have hC39 : Ctx [] w0 _ [Item.own v4 (x8.1 : (List (Int × (List Int)))), Item.own (.agg #[(.int .i64 x1.1.1), v2, (.int .i64 x8.2.1), (.int .i64 x1.2.2)]) (((x1.1.1, x1.1.2), x8.2.1, x1.2.2) : ((Int × (List Int)) × Int × Int)), Item.own (.int .i64 1) (1 : Int), Item.own v3 (x7 : (List (Int × (List Int)))), Item.box b4 [(.int .i64 x1.1.1), v2, (.int .i64 x8.2.1), (.int .i64 x1.2.2)], Item.box b3 [(.int .i64 x1.1.1), v2, (.int .i64 x8.2.1), (.int .i64 x1.2.2)], Item.box b2 [(.int .i64 a4.1.1), u4, (.int .i64 a4.2.1), (.int .i64 a4.2.2)], Item.box b1 [u3, (.int .i64 a3.2)]] := hC37.front 2 rfl
            exact ⟨_, rfl, res3_of hC39⟩
          · replace hF := ite_f hF hc7
            refine W_skip ?_
            refine nrm_normal ?_
            refine W_seq ?_
            refine W_drawn 5 rfl hmix (fun w23 hB17 => ?_)
            have hC40 := hC33.grow hB17
            refine WA_take 0 rfl (by kernel_rfl) (by kernel_rfl) (by kernel_rfl) rfl (fl_move rfl) ?_
            refine WL_move rfl rfl ?_
            refine WL_nil ?_
            refine WA_take 2 rfl (by kernel_rfl) (by kernel_rfl) (by kernel_rfl) rfl (fl_assign rfl) ?_
            refine WL_assign rfl rfl ?_
            refine WL_nil ?_
            refine WA_one 1 (by kernel_rfl) rfl ?_
            refine WL_load_box_agg [(.int .i64 x1.1.1), v2, (.int .i64 x8.2.1), (.int .i64 x1.2.2)] hC40 2 rfl rfl rfl Try.isAgg37 Try.sizeOf37 rfl rfl ?_
            refine WL_nil ?_
            refine WA_one 3 (by kernel_rfl) rfl ?_
            refine WL_store_box_agg (cs' := [(.int .i64 x1.1.1), v2, (.int .i64 x8.2.1), (.int .i64 x1.2.2)]) (new := [(.int .i64 x1.1.1), v2, (.int .i64 x8.2.1), (.int .i64 x1.2.2)]) hC40 4 rfl rfl (by intro v hv; simp only [List.mem_cons, List.not_mem_nil, or_false] at hv; rcases hv with rfl | rfl | rfl | rfl; exact rfl; exact (ro_one (hC40.ro 3 rfl)); exact rfl; exact rfl) rfl Try.sizeOf37 rfl rfl (fun w24 hC41 => ?_)
            try dsimp only [List.set] at hC41
            refine WL_nil ?_
            refine WA_take 4 rfl (by kernel_rfl) (by kernel_rfl) (by kernel_rfl) rfl (fl_assign rfl) ?_
            refine WL_assign rfl rfl ?_
            refine WL_nil ?_
            refine WA_done (by kernel_rfl) ?_
            refine nrm_normal ?_
            refine W_ret ?_
            have hq9 := Option.some.inj hF
            subst hq9
            refine fn_retG3 rfl (rv_tmp rfl) (rv_cell_agg (cs' := [(.int .i64 x1.1.1), v2, (.int .i64 x8.2.1), (.int .i64 x1.2.2)]) hC41 (i := 4) rfl rfl rfl Try.isAgg37 Try.sizeOf37 rfl) (rv_tmp rfl) ?_
            have hC42 := hC41.triv (int_val (0))
            have hC44 : Ctx [] w0 _ [Item.own v2 (x1.1.2 : (List Int)), Item.own (.int .i64 0) (0 : Int), Item.own v4 (x8.1 : (List (Int × (List Int)))), Item.own v3 (x7 : (List (Int × (List Int)))), Item.box b4 [(.int .i64 x1.1.1), v2, (.int .i64 x8.2.1), (.int .i64 x1.2.2)], Item.box b3 [(.int .i64 x1.1.1), v2, (.int .i64 x8.2.1), (.int .i64 x1.2.2)], Item.box b2 [(.int .i64 a4.1.1), u4, (.int .i64 a4.2.1), (.int .i64 a4.2.2)], Item.box b1 [u3, (.int .i64 a3.2)]] := hC42.front 4 rfl
            have hC43 := own_st37 x1.1.1 v2 x1.1.2 x8.2.1 x1.2.2 hC44
            have hC45 : Ctx [] w0 _ [Item.own v4 (x8.1 : (List (Int × (List Int)))), Item.own (.agg #[(.int .i64 x1.1.1), v2, (.int .i64 x8.2.1), (.int .i64 x1.2.2)]) (((x1.1.1, x1.1.2), x8.2.1, x1.2.2) : ((Int × (List Int)) × Int × Int)), Item.own (.int .i64 0) (0 : Int), Item.own v3 (x7 : (List (Int × (List Int)))), Item.box b4 [(.int .i64 x1.1.1), v2, (.int .i64 x8.2.1), (.int .i64 x1.2.2)], Item.box b3 [(.int .i64 x1.1.1), v2, (.int .i64 x8.2.1), (.int .i64 x1.2.2)], Item.box b2 [(.int .i64 a4.1.1), u4, (.int .i64 a4.2.1), (.int .i64 a4.2.2)], Item.box b1 [u3, (.int .i64 a3.2)]] := hC43.front 2 rfl
            exact ⟨_, rfl, res3_of hC45⟩

theorem c_Q_eqIntS {w0 : World} (a1 : (List Int)) (u1 : Value) (g1 : RO [] w0 u1 a1) (a2 : (List Int)) (u2 : Value) (g2 : RO [] w0 u2 a2) (rr : Bool) (hF : Q.eqIntS a1 a2 = some rr) :
    Calls Try.prog 15 [u1, u2].toArray w0 fun e w' => ∃ v, e = .returned v ∧ Res w0 rr v w' := by
  refine calls_of_W Try.func15 rfl rfl ?_
  have hC0 := Ctx.start w0
  unfold Q.eqIntS at hF
  refine W_seq_reg ?_
  refine WL_assign rfl rfl ?_
  refine WL_nil ?_
  refine W_seq ?_
  refine W_seq_reg ?_
  refine WL_move rfl rfl ?_
  refine WL_len Try.underlying22 g1 rfl rfl ?_
  refine WL_move rfl rfl ?_
  refine WL_len Try.underlying22 g2 rfl rfl ?_
  refine WL_neq rfl rfl rfl ?_
  refine WL_nil ?_
  refine W_cond rfl (fun hc1 => ?_) (fun hc1 => ?_)
  · replace hF := ite_t hF hc1
    refine W_seq_reg ?_
    refine WL_assign rfl rfl ?_
    refine WL_nil ?_
    refine W_ret ?_
    refine nrm_ret ?_
    have hq1 := Option.some.inj hF
    subst hq1
    refine fn_ret1 rfl rfl ?_
    exact ⟨_, rfl, bool_res hC0 _⟩
  · replace hF := ite_f hF hc1
    refine W_skip ?_
    refine nrm_normal ?_
    refine W_seq ?_
    refine W_seq_reg ?_
    refine WL_assign rfl rfl ?_
    refine WL_nil ?_
    obtain ⟨r1, hr1, hF⟩ := bind_some hF
    refine W_norm (fun l w => .inl () = r1 ∧ l = [] ∧ Below w0.heap.size w0 w ∧ Ctx [] w0 w []) ?_ ?_
    · refine W_block ?_
      refine W.sub (l' := [(0, u1), (1, u2), (5, (.int .i64 0))]) ?_ ⟨rfl, rfl, rfl, trivial⟩
      refine W_loop (fun k l w => ∃ x1 : Int, l = [(0, u1), (1, u2), (5, (.int .i64 x1))] ∧ Below w0.heap.size w0 w ∧ Ctx [] w0 w [] ∧ Q.eqIntS_l1 a1 a2 k x1 = some r1) FUEL ⟨0, rfl, (Below.refl _ _), hC0, hr1⟩ ?_
      clear hr1
      rintro k1 _ w1 ⟨x1, rfl, hB1, hC1, hL1⟩
      cases k1 with
      | zero => rw [Q.eqIntS_l1] at hL1; cases hL1
      | succ k1 =>
        rw [Q.eqIntS_l1] at hL1
        refine W_seq ?_
        refine W_seq_reg ?_
        refine WL_move rfl rfl ?_
        refine WL_move rfl rfl ?_
        refine WL_len Try.underlying22 g1 rfl rfl ?_
        refine WL_lss rfl rfl rfl ?_
        refine WL_nil ?_
        refine W_cond rfl (fun hc2 => ?_) (fun hc2 => ?_)
        · replace hL1 := ite_t hL1 hc2
          refine W_skip ?_
          refine nrm_normal ?_
          refine W_seq ?_
          refine W_block ?_
          refine W_seq ?_
          refine W_drawn 9 rfl hmix (fun w2 hB2 => ?_)
          have hC2 := hC1.grow hB2
          refine WA_take 0 rfl (by kernel_rfl) (by kernel_rfl) (by kernel_rfl) rfl (fl_move rfl) ?_
          refine WL_move rfl rfl ?_
          refine WL_nil ?_
          refine WA_take 1 rfl (by kernel_rfl) (by kernel_rfl) (by kernel_rfl) rfl (fl_move rfl) ?_
          refine WL_move rfl rfl ?_
          refine WL_nil ?_
          obtain ⟨x2, hx1, hL1⟩ := bind_some hL1
          refine WA_take 2 rfl (by kernel_rfl) (by kernel_rfl) (by kernel_rfl) rfl (fl_index Try.underlying22 ty3 g1 hx1 rfl rfl) ?_
          refine WL_index Try.underlying22 ty3 g1 hx1 rfl rfl rfl (fun b1 o1 h1 => ?_)
          refine WL_nil ?_
          refine WA_take 4 rfl (by kernel_rfl) (by kernel_rfl) (by kernel_rfl) rfl (fl_move rfl) ?_
          refine WL_move rfl rfl ?_
          refine WL_nil ?_
          refine WA_take 5 rfl (by kernel_rfl) (by kernel_rfl) (by kernel_rfl) rfl (fl_move rfl) ?_
          refine WL_move rfl rfl ?_
          refine WL_nil ?_
          obtain ⟨x3, hx2, hL1⟩ := bind_some hL1
          refine WA_take 6 rfl (by kernel_rfl) (by kernel_rfl) (by kernel_rfl) rfl (fl_index Try.underlying22 ty3 g2 hx2 rfl rfl) ?_
          refine WL_index Try.underlying22 ty3 g2 hx2 rfl rfl rfl (fun b2 o2 h2 => ?_)
          refine WL_nil ?_
          refine WA.sub (l' := [(0, u1), (1, u2), (5, (.int .i64 x1)), (11, (.int .i64 x1)), (12, u1), (13, (.int .i64 (List.length a1 : Int))), (14, (.bool (decide (x1 < (List.length a1 : Int))))), (17, u1), (18, (.int .i64 x1)), (19, (ptr b1 o1)), (21, u2), (22, (.int .i64 x1)), (23, (ptr b2 o2))]) ?_ ⟨rfl, rfl, rfl, rfl, rfl, rfl, rfl, rfl, rfl, rfl, rfl, rfl, rfl, trivial⟩
          refine WA_postsE [⟨3, [], fun vs => PW.val (.int .i64 x2), []⟩, ⟨7, [], fun vs => PW.val (.int .i64 x3), []⟩] [[], []] 1 rfl (by kernel_rfl) (by kernel_rfl) rfl ?_ ?_
          · refine StepsE_cons rfl ?_ ?_
            · intro w3 hB3
              refine DepsE_nil ?_
              refine ⟨_, rfl, ?_⟩
              refine WL_load ty3 h1 (hC2.keep.then hB3) rfl rfl (fun v1 h3 => ?_)
              obtain rfl := ro_int h3
              refine WL_nil ?_
              exact FinE_val (Below.refl _ _) rfl rfl ⟨rfl, rfl⟩
            refine StepsE_cons rfl ?_ ?_
            · intro w3 hB3
              refine DepsE_nil ?_
              refine ⟨_, rfl, ?_⟩
              refine WL_load ty3 h2 (hC2.keep.then hB3) rfl rfl (fun v2 h4 => ?_)
              obtain rfl := ro_int h4
              refine WL_nil ?_
              exact FinE_val (Below.refl _ _) rfl rfl ⟨rfl, rfl⟩
            exact StepsE_nil
          · intro w4 hB4
            refine AllE_cons rfl rfl rfl ?_
            rintro _ _ ⟨rfl, rfl⟩
            refine AllE_cons rfl rfl rfl ?_
            rintro _ _ ⟨rfl, rfl⟩
            refine AllE_nil ?_
            intro hn1 hb1
            have hC3 := hC2.grow hB4
            refine WA_take 8 rfl (by kernel_rfl) (by kernel_rfl) (by kernel_rfl) rfl (fl_neq rfl rfl) ?_
            refine WL_neq rfl rfl rfl ?_
            refine WL_nil ?_
            refine WA_done (by kernel_rfl) ?_
            refine nrm_normal ?_
            refine W_cond rfl (fun hc3 => ?_) (fun hc3 => ?_)
            · replace hL1 := ite_t hL1 hc3
              refine W_seq_reg ?_
              refine WL_assign rfl rfl ?_
              refine WL_nil ?_
              refine W_ret ?_
              refine blk_ret ?_
              refine nrm_ret ?_
              refine nrm_ret ?_
              refine blk_ret ?_
              refine nrm_ret ?_
              refine nrm_ret ?_
              have hq2 := Option.some.inj hL1
              subst hq2
              dsimp only at hF
              have hq3 := Option.some.inj hF
              subst hq3
              refine fn_ret1 rfl rfl ?_
              exact ⟨_, rfl, bool_res hC3 _⟩
            · replace hL1 := ite_f hL1 hc3
              refine W_skip ?_
              refine blk_normal ?_
              refine nrm_normal ?_
              refine W_reg ?_
              refine WL_move rfl rfl ?_
              refine WL_add rfl rfl rfl ?_
              refine WL_assign rfl rfl ?_
              refine WL_nil ?_
              refine nrm_sub (l' := [(0, u1), (1, u2), (5, (.int .i64 (w64 (x1 + 1))))]) ⟨rfl, rfl, rfl, trivial⟩ ?_
              exact ⟨k1, Nat.lt_succ_self _, w64 (x1 + 1), rfl, (((Keep.of hB1).then hB2).then hB4).below, hC3, hL1⟩
        · replace hL1 := ite_f hL1 hc2
          refine W_exit ?_
          refine nrm_exit ?_
          refine nrm_exit ?_
          refine blk_exit ?_
          have hq4 := Option.some.inj hL1
          subst hq4
          refine nrm_sub (l' := []) trivial ?_
          exact ⟨rfl, rfl, (Keep.of hB1).below, hC1⟩
    · rintro l2 _ w5 hs2 ⟨rfl, rfl, hB5, hC4⟩
      try dsimp only at hF
      refine nrm_sub' hs2 ?_
      clear hs2
      refine W_seq_reg ?_
      refine WL_assign rfl rfl ?_
      refine WL_nil ?_
      refine W_ret ?_
      have hq5 := Option.some.inj hF
      subst hq5
      refine fn_ret1 rfl rfl ?_
      exact ⟨_, rfl, bool_res hC4 _⟩

theorem c_Q_eqFact {w0 : World} (a1 : (Int × (List Int))) (u1 : Value) (g1 : RO [] w0 u1 a1.2) (a2 : (Int × (List Int))) (u2 : Value) (g2 : RO [] w0 u2 a2.2) (rr : Bool) (hF : Q.eqFact a1 a2 = some rr) :
    Calls Try.prog 44 [(.agg #[(.int .i64 a1.1), u1]), (.agg #[(.int .i64 a2.1), u2])].toArray w0 fun e w' => ∃ v, e = .returned v ∧ Res w0 rr v w' := by
  refine calls_of_W Try.func44 rfl rfl ?_
  have hC0 := Ctx.start w0
  unfold Q.eqFact at hF
  refine W_seq_reg ?_
  refine WL_box (cs := [(.int .i64 a1.1), u1]) hC0 rfl rfl rfl (fun b1 w1 hC1 hB1 => ?_)
  refine WL_box (cs := [(.int .i64 a2.1), u2]) hC1 rfl rfl rfl (fun b2 w2 hC2 hB2 => ?_)
  refine WL_assign rfl rfl ?_
  refine WL_nil ?_
  refine W_seq ?_
  refine W_seq_reg ?_
  refine WL_field Try.underlying78 rfl rfl (fun w => ⟨_, Try.sizeOf3 w⟩) rfl rfl ?_
  refine WL_load_box hC2 1 rfl rfl Try.isAgg3 rfl rfl ?_
  refine WL_field Try.underlying78 rfl rfl (fun w => ⟨_, Try.sizeOf3 w⟩) rfl rfl ?_
  refine WL_load_box hC2 0 rfl rfl Try.isAgg3 rfl rfl ?_
  refine WL_neq rfl rfl rfl ?_
  refine WL_nil ?_
  refine W_cond rfl (fun hc1 => ?_) (fun hc1 => ?_)
  · replace hF := ite_t hF hc1
    refine W_seq_reg ?_
    refine WL_assign rfl rfl ?_
    refine WL_nil ?_
    refine W_ret ?_
    refine nrm_ret ?_
    have hq1 := Option.some.inj hF
    subst hq1
    refine fn_ret1 rfl rfl ?_
    exact ⟨_, rfl, bool_res hC2 _⟩
  · replace hF := ite_f hF hc1
    refine W_skip ?_
    refine nrm_normal ?_
    refine W_seq ?_
    refine W_seq_reg ?_
    refine WL_field Try.underlying78 rfl rfl (fun w => ⟨_, Try.sizeOf22 w⟩) rfl rfl ?_
    refine WL_load_box hC2 1 rfl rfl Try.isAgg22 rfl rfl ?_
    refine WL_field Try.underlying78 rfl rfl (fun w => ⟨_, Try.sizeOf22 w⟩) rfl rfl ?_
    refine WL_load_box hC2 0 rfl rfl Try.isAgg22 rfl rfl ?_
    obtain ⟨x1, hr1, hF⟩ := bind_some hF
    refine WL_call Try.call15 rfl rfl (c_Q_eqIntS a1.2 u1 (g1.now hC2.keep) a2.2 u2 (g2.now hC2.keep) x1 hr1) ?_
    intro _ w3 hv1
    obtain ⟨rfl, hB3⟩ := res_bool hv1
    have hC3 := hC2.grow hB3
    refine WL_not rfl rfl ?_
    refine WL_nil ?_
    refine W_cond rfl (fun hc2 => ?_) (fun hc2 => ?_)
    · replace hF := ite_t hF hc2
      refine W_seq_reg ?_
      refine WL_assign rfl rfl ?_
      refine WL_nil ?_
      refine W_ret ?_
      refine nrm_ret ?_
      have hq2 := Option.some.inj hF
      subst hq2
      refine fn_ret1 rfl rfl ?_
      exact ⟨_, rfl, bool_res hC3 _⟩
    · replace hF := ite_f hF hc2
      refine W_skip ?_
      refine nrm_normal ?_
      refine W_seq_reg ?_
      refine WL_assign rfl rfl ?_
      refine WL_nil ?_
      refine W_ret ?_
      have hq3 := Option.some.inj hF
      subst hq3
      refine fn_ret1 rfl rfl ?_
      exact ⟨_, rfl, bool_res hC3 _⟩

theorem c_Q_eqFactS {w0 : World} (a1 : (List (Int × (List Int)))) (u1 : Value) (g1 : RO [] w0 u1 a1) (a2 : (List (Int × (List Int)))) (u2 : Value) (g2 : RO [] w0 u2 a2) (rr : Bool) (hF : Q.eqFactS a1 a2 = some rr) :
    Calls Try.prog 13 [u1, u2].toArray w0 fun e w' => ∃ v, e = .returned v ∧ Res w0 rr v w' := by
  refine calls_of_W Try.func13 rfl rfl ?_
  have hC0 := Ctx.start w0
  unfold Q.eqFactS at hF
  refine W_seq_reg ?_
  refine WL_assign rfl rfl ?_
  refine WL_nil ?_
  refine W_seq ?_
  refine W_seq_reg ?_
  refine WL_move rfl rfl ?_
  refine WL_len Try.underlying34 g1 rfl rfl ?_
  refine WL_move rfl rfl ?_
  refine WL_len Try.underlying34 g2 rfl rfl ?_
  refine WL_neq rfl rfl rfl ?_
  refine WL_nil ?_
  refine W_cond rfl (fun hc1 => ?_) (fun hc1 => ?_)
  · replace hF := ite_t hF hc1
    refine W_seq_reg ?_
    refine WL_assign rfl rfl ?_
    refine WL_nil ?_
    refine W_ret ?_
    refine nrm_ret ?_
    have hq1 := Option.some.inj hF
    subst hq1
    refine fn_ret1 rfl rfl ?_
    exact ⟨_, rfl, bool_res hC0 _⟩
  · replace hF := ite_f hF hc1
    refine W_skip ?_
    refine nrm_normal ?_
    refine W_seq ?_
    refine W_seq_reg ?_
    refine WL_assign rfl rfl ?_
    refine WL_nil ?_
    obtain ⟨r1, hr1, hF⟩ := bind_some hF
    refine W_norm (fun l w => .inl () = r1 ∧ l = [] ∧ Below w0.heap.size w0 w ∧ Ctx [] w0 w []) ?_ ?_
    · refine W_block ?_
      refine W.sub (l' := [(0, u1), (1, u2), (5, (.int .i64 0))]) ?_ ⟨rfl, rfl, rfl, trivial⟩
      refine W_loop (fun k l w => ∃ x1 : Int, l = [(0, u1), (1, u2), (5, (.int .i64 x1))] ∧ Below w0.heap.size w0 w ∧ Ctx [] w0 w [] ∧ Q.eqFactS_l1 a1 a2 k x1 = some r1) FUEL ⟨0, rfl, (Below.refl _ _), hC0, hr1⟩ ?_
      clear hr1
      rintro k1 _ w1 ⟨x1, rfl, hB1, hC1, hL1⟩
      cases k1 with
      | zero => rw [Q.eqFactS_l1] at hL1; cases hL1
      | succ k1 =>
        rw [Q.eqFactS_l1] at hL1
        refine W_seq ?_
        refine W_seq_reg ?_
        refine WL_move rfl rfl ?_
        refine WL_move rfl rfl ?_
        refine WL_len Try.underlying34 g1 rfl rfl ?_
        refine WL_lss rfl rfl rfl ?_
        refine WL_nil ?_
        refine W_cond rfl (fun hc2 => ?_) (fun hc2 => ?_)
        · replace hL1 := ite_t hL1 hc2
          refine W_skip ?_
          refine nrm_normal ?_
          refine W_seq ?_
          refine W_block ?_
          refine W_seq ?_
          refine W_drawn 10 rfl hmix (fun w2 hB2 => ?_)
          have hC2 := hC1.grow hB2
          refine WA_take 0 rfl (by kernel_rfl) (by kernel_rfl) (by kernel_rfl) rfl (fl_move rfl) ?_
          refine WL_move rfl rfl ?_
          refine WL_nil ?_
          refine WA_take 1 rfl (by kernel_rfl) (by kernel_rfl) (by kernel_rfl) rfl (fl_move rfl) ?_
          refine WL_move rfl rfl ?_
          refine WL_nil ?_
          obtain ⟨x2, hx1, hL1⟩ := bind_some hL1
          refine WA_take 2 rfl (by kernel_rfl) (by kernel_rfl) (by kernel_rfl) rfl (fl_index Try.underlying34 ty78 g1 hx1 rfl rfl) ?_
          refine WL_index Try.underlying34 ty78 g1 hx1 rfl rfl rfl (fun b1 o1 h1 => ?_)
          refine WL_nil ?_
          refine WA_take 4 rfl (by kernel_rfl) (by kernel_rfl) (by kernel_rfl) rfl (fl_move rfl) ?_
          refine WL_move rfl rfl ?_
          refine WL_nil ?_
          refine WA_take 5 rfl (by kernel_rfl) (by kernel_rfl) (by kernel_rfl) rfl (fl_move rfl) ?_
          refine WL_move rfl rfl ?_
          refine WL_nil ?_
          obtain ⟨x3, hx2, hL1⟩ := bind_some hL1
          refine WA_take 6 rfl (by kernel_rfl) (by kernel_rfl) (by kernel_rfl) rfl (fl_index Try.underlying34 ty78 g2 hx2 rfl rfl) ?_
          refine WL_index Try.underlying34 ty78 g2 hx2 rfl rfl rfl (fun b2 o2 h2 => ?_)
          refine WL_nil ?_
          refine WA.sub (l' := [(0, u1), (1, u2), (5, (.int .i64 x1)), (11, (.int .i64 x1)), (12, u1), (13, (.int .i64 (List.length a1 : Int))), (14, (.bool (decide (x1 < (List.length a1 : Int))))), (17, u1), (18, (.int .i64 x1)), (19, (ptr b1 o1)), (21, u2), (22, (.int .i64 x1)), (23, (ptr b2 o2))]) ?_ ⟨rfl, rfl, rfl, rfl, rfl, rfl, rfl, rfl, rfl, rfl, rfl, rfl, rfl, trivial⟩
          refine WA_postsE [⟨3, [], fun vs => PW.ro [] w0 x2, []⟩, ⟨7, [], fun vs => PW.ro [] w0 x3, []⟩] [[], []] 2 rfl (by kernel_rfl) (by kernel_rfl) rfl ?_ ?_
          · refine StepsE_cons rfl ?_ ?_
            · intro w3 hB3
              refine DepsE_nil ?_
              refine ⟨_, rfl, ?_⟩
              refine WL_load ty78 h1 (hC2.keep.then hB3) rfl rfl (fun v3 h5 => ?_)
              refine WL_nil ?_
              exact FinE_val (Below.refl _ _) rfl rfl ⟨rfl, h5⟩
            refine StepsE_cons rfl ?_ ?_
            · intro w3 hB3
              refine DepsE_nil ?_
              refine ⟨_, rfl, ?_⟩
              refine WL_load ty78 h2 (hC2.keep.then hB3) rfl rfl (fun v6 h8 => ?_)
              refine WL_nil ?_
              exact FinE_val (Below.refl _ _) rfl rfl ⟨rfl, h8⟩
            exact StepsE_nil
          · intro w4 hB4
            refine AllE_cons rfl rfl rfl ?_
            rintro v3 _ ⟨rfl, h5⟩
            obtain ⟨v2, rfl, h4⟩ := ro_st78 h5
            refine AllE_cons rfl rfl rfl ?_
            rintro v6 _ ⟨rfl, h8⟩
            obtain ⟨v5, rfl, h7⟩ := ro_st78 h8
            refine AllE_nil ?_
            intro hn1 hb1
            have hC3 := hC2.grow hB4
            obtain ⟨x4, hr2, hL1⟩ := bind_some hL1
            refine WA_one 8 (by kernel_rfl) rfl ?_
            refine WL_call Try.call44 rfl rfl (c_Q_eqFact x2 v2 (h4.now hC3.keep) x3 v5 (h7.now hC3.keep) x4 hr2) ?_
            intro _ w5 hv1
            obtain ⟨rfl, hB5⟩ := res_bool hv1
            have hC4 := hC3.grow hB5
            refine WL_nil ?_
            refine WA_take 9 rfl (by kernel_rfl) (by kernel_rfl) (by kernel_rfl) rfl (fl_not rfl) ?_
            refine WL_not rfl rfl ?_
            refine WL_nil ?_
            refine WA_done (by kernel_rfl) ?_
            refine nrm_normal ?_
            refine W_cond rfl (fun hc3 => ?_) (fun hc3 => ?_)
            · replace hL1 := ite_t hL1 hc3
              refine W_seq_reg ?_
              refine WL_assign rfl rfl ?_
              refine WL_nil ?_
              refine W_ret ?_
              refine blk_ret ?_
              refine nrm_ret ?_
              refine nrm_ret ?_
              refine blk_ret ?_
              refine nrm_ret ?_
              refine nrm_ret ?_
              have hq2 := Option.some.inj hL1
              subst hq2
              dsimp only at hF
              have hq3 := Option.some.inj hF
              subst hq3
              refine fn_ret1 rfl rfl ?_
              exact ⟨_, rfl, bool_res hC4 _⟩
            · replace hL1 := ite_f hL1 hc3
              refine W_skip ?_
              refine blk_normal ?_
              refine nrm_normal ?_
              refine W_reg ?_
              refine WL_move rfl rfl ?_
              refine WL_add rfl rfl rfl ?_
              refine WL_assign rfl rfl ?_
              refine WL_nil ?_
              refine nrm_sub (l' := [(0, u1), (1, u2), (5, (.int .i64 (w64 (x1 + 1))))]) ⟨rfl, rfl, rfl, trivial⟩ ?_
              exact ⟨k1, Nat.lt_succ_self _, w64 (x1 + 1), rfl, ((((Keep.of hB1).then hB2).then hB4).then hB5).below, hC4, hL1⟩
        · replace hL1 := ite_f hL1 hc2
          refine W_exit ?_
          refine nrm_exit ?_
          refine nrm_exit ?_
          refine blk_exit ?_
          have hq4 := Option.some.inj hL1
          subst hq4
          refine nrm_sub (l' := []) trivial ?_
          exact ⟨rfl, rfl, (Keep.of hB1).below, hC1⟩
    · rintro l2 _ w6 hs2 ⟨rfl, rfl, hB6, hC5⟩
      try dsimp only at hF
      refine nrm_sub' hs2 ?_
      clear hs2
      refine W_seq_reg ?_
      refine WL_assign rfl rfl ?_
      refine WL_nil ?_
      refine W_ret ?_
      have hq5 := Option.some.inj hF
      subst hq5
      refine fn_ret1 rfl rfl ?_
      exact ⟨_, rfl, bool_res hC5 _⟩

theorem c_Q_eqAccess {w0 : World} (a1 : (Int × (List Int))) (u1 : Value) (g1 : RO [] w0 u1 a1.2) (a2 : (Int × (List Int))) (u2 : Value) (g2 : RO [] w0 u2 a2.2) (rr : Bool) (hF : Q.eqAccess a1 a2 = some rr) :
    Calls Try.prog 45 [(.agg #[(.int .i64 a1.1), u1]), (.agg #[(.int .i64 a2.1), u2])].toArray w0 fun e w' => ∃ v, e = .returned v ∧ Res w0 rr v w' := by
  refine calls_of_W Try.func45 rfl rfl ?_
  have hC0 := Ctx.start w0
  unfold Q.eqAccess at hF
  refine W_seq_reg ?_
  refine WL_box (cs := [(.int .i64 a1.1), u1]) hC0 rfl rfl rfl (fun b1 w1 hC1 hB1 => ?_)
  refine WL_box (cs := [(.int .i64 a2.1), u2]) hC1 rfl rfl rfl (fun b2 w2 hC2 hB2 => ?_)
  refine WL_assign rfl rfl ?_
  refine WL_nil ?_
  refine W_seq ?_
  refine W_seq_reg ?_
  refine WL_field Try.underlying35 rfl rfl (fun w => ⟨_, Try.sizeOf3 w⟩) rfl rfl ?_
  refine WL_load_box hC2 1 rfl rfl Try.isAgg3 rfl rfl ?_
  refine WL_field Try.underlying35 rfl rfl (fun w => ⟨_, Try.sizeOf3 w⟩) rfl rfl ?_
  refine WL_load_box hC2 0 rfl rfl Try.isAgg3 rfl rfl ?_
  refine WL_neq rfl rfl rfl ?_
  refine WL_nil ?_
  refine W_cond rfl (fun hc1 => ?_) (fun hc1 => ?_)
  · replace hF := ite_t hF hc1
    refine W_seq_reg ?_
    refine WL_assign rfl rfl ?_
    refine WL_nil ?_
    refine W_ret ?_
    refine nrm_ret ?_
    have hq1 := Option.some.inj hF
    subst hq1
    refine fn_ret1 rfl rfl ?_
    exact ⟨_, rfl, bool_res hC2 _⟩
  · replace hF := ite_f hF hc1
    refine W_skip ?_
    refine nrm_normal ?_
    refine W_seq ?_
    refine W_seq_reg ?_
    refine WL_field Try.underlying35 rfl rfl (fun w => ⟨_, Try.sizeOf22 w⟩) rfl rfl ?_
    refine WL_load_box hC2 1 rfl rfl Try.isAgg22 rfl rfl ?_
    refine WL_field Try.underlying35 rfl rfl (fun w => ⟨_, Try.sizeOf22 w⟩) rfl rfl ?_
    refine WL_load_box hC2 0 rfl rfl Try.isAgg22 rfl rfl ?_
    obtain ⟨x1, hr1, hF⟩ := bind_some hF
    refine WL_call Try.call15 rfl rfl (c_Q_eqIntS a1.2 u1 (g1.now hC2.keep) a2.2 u2 (g2.now hC2.keep) x1 hr1) ?_
    intro _ w3 hv1
    obtain ⟨rfl, hB3⟩ := res_bool hv1
    have hC3 := hC2.grow hB3
    refine WL_not rfl rfl ?_
    refine WL_nil ?_
    refine W_cond rfl (fun hc2 => ?_) (fun hc2 => ?_)
    · replace hF := ite_t hF hc2
      refine W_seq_reg ?_
      refine WL_assign rfl rfl ?_
      refine WL_nil ?_
      refine W_ret ?_
      refine nrm_ret ?_
      have hq2 := Option.some.inj hF
      subst hq2
      refine fn_ret1 rfl rfl ?_
      exact ⟨_, rfl, bool_res hC3 _⟩
    · replace hF := ite_f hF hc2
      refine W_skip ?_
      refine nrm_normal ?_
      refine W_seq_reg ?_
      refine WL_assign rfl rfl ?_
      refine WL_nil ?_
      refine W_ret ?_
      have hq3 := Option.some.inj hF
      subst hq3
      refine fn_ret1 rfl rfl ?_
      exact ⟨_, rfl, bool_res hC3 _⟩

theorem c_Q_eqCursor {w0 : World} (a1 : ((Int × (List Int)) × Int × Int)) (u1 : Value) (g1 : RO [] w0 u1 a1.1.2) (a2 : ((Int × (List Int)) × Int × Int)) (u2 : Value) (g2 : RO [] w0 u2 a2.1.2) (rr : Bool) (hF : Q.eqCursor a1 a2 = some rr) :
    Calls Try.prog 14 [(.agg #[(.int .i64 a1.1.1), u1, (.int .i64 a1.2.1), (.int .i64 a1.2.2)]), (.agg #[(.int .i64 a2.1.1), u2, (.int .i64 a2.2.1), (.int .i64 a2.2.2)])].toArray w0 fun e w' => ∃ v, e = .returned v ∧ Res w0 rr v w' := by
  refine calls_of_W Try.func14 rfl rfl ?_
  have hC0 := Ctx.start w0
  unfold Q.eqCursor at hF
  refine W_seq_reg ?_
  refine WL_box (cs := [(.int .i64 a1.1.1), u1, (.int .i64 a1.2.1), (.int .i64 a1.2.2)]) hC0 rfl rfl rfl (fun b1 w1 hC1 hB1 => ?_)
  refine WL_box (cs := [(.int .i64 a2.1.1), u2, (.int .i64 a2.2.1), (.int .i64 a2.2.2)]) hC1 rfl rfl rfl (fun b2 w2 hC2 hB2 => ?_)
  refine WL_assign rfl rfl ?_
  refine WL_nil ?_
  refine W_seq ?_
  refine W_seq_reg ?_
  refine WL_field Try.underlying37 rfl rfl (fun w => ⟨_, Try.sizeOf35 w⟩) rfl rfl ?_
  refine WL_load_box_agg [(.int .i64 a1.1.1), u1] hC2 1 rfl rfl rfl Try.isAgg35 Try.sizeOf35 rfl rfl ?_
  refine WL_field Try.underlying37 rfl rfl (fun w => ⟨_, Try.sizeOf35 w⟩) rfl rfl ?_
  refine WL_load_box_agg [(.int .i64 a2.1.1), u2] hC2 0 rfl rfl rfl Try.isAgg35 Try.sizeOf35 rfl rfl ?_
  obtain ⟨x1, hr1, hF⟩ := bind_some hF
  refine WL_call Try.call45 rfl rfl (c_Q_eqAccess (a1.1.1, a1.1.2) u1 (g1.now hC2.keep) (a2.1.1, a2.1.2) u2 (g2.now hC2.keep) x1 hr1) ?_
  intro _ w3 hv1
  obtain ⟨rfl, hB3⟩ := res_bool hv1
  have hC3 := hC2.grow hB3
  refine WL_not rfl rfl ?_
  refine WL_nil ?_
  refine W_cond rfl (fun hc1 => ?_) (fun hc1 => ?_)
  · replace hF := ite_t hF hc1
    refine W_seq_reg ?_
    refine WL_assign rfl rfl ?_
    refine WL_nil ?_
    refine W_ret ?_
    refine nrm_ret ?_
    have hq1 := Option.some.inj hF
    subst hq1
    refine fn_ret1 rfl rfl ?_
    exact ⟨_, rfl, bool_res hC3 _⟩
  · replace hF := ite_f hF hc1
    refine W_skip ?_
    refine nrm_normal ?_
    refine W_seq ?_
    refine W_seq_reg ?_
    refine WL_field Try.underlying37 rfl rfl (fun w => ⟨_, Try.sizeOf3 w⟩) rfl rfl ?_
    refine WL_load_box hC3 1 rfl rfl Try.isAgg3 rfl rfl ?_
    refine WL_field Try.underlying37 rfl rfl (fun w => ⟨_, Try.sizeOf3 w⟩) rfl rfl ?_
    refine WL_load_box hC3 0 rfl rfl Try.isAgg3 rfl rfl ?_
    refine WL_neq rfl rfl rfl ?_
    refine WL_nil ?_
    refine W_cond rfl (fun hc2 => ?_) (fun hc2 => ?_)
    · replace hF := ite_t hF hc2
      refine W_seq_reg ?_
      refine WL_assign rfl rfl ?_
      refine WL_nil ?_
      refine W_ret ?_
      refine nrm_ret ?_
      have hq2 := Option.some.inj hF
      subst hq2
      refine fn_ret1 rfl rfl ?_
      exact ⟨_, rfl, bool_res hC3 _⟩
    · replace hF := ite_f hF hc2
      refine W_skip ?_
      refine nrm_normal ?_
      refine W_seq ?_
      refine W_seq_reg ?_
      refine WL_field Try.underlying37 rfl rfl (fun w => ⟨_, Try.sizeOf3 w⟩) rfl rfl ?_
      refine WL_load_box hC3 1 rfl rfl Try.isAgg3 rfl rfl ?_
      refine WL_field Try.underlying37 rfl rfl (fun w => ⟨_, Try.sizeOf3 w⟩) rfl rfl ?_
      refine WL_load_box hC3 0 rfl rfl Try.isAgg3 rfl rfl ?_
      refine WL_neq rfl rfl rfl ?_
      refine WL_nil ?_
      refine W_cond rfl (fun hc3 => ?_) (fun hc3 => ?_)
      · replace hF := ite_t hF hc3
        refine W_seq_reg ?_
        refine WL_assign rfl rfl ?_
        refine WL_nil ?_
        refine W_ret ?_
        refine nrm_ret ?_
        have hq3 := Option.some.inj hF
        subst hq3
        refine fn_ret1 rfl rfl ?_
        exact ⟨_, rfl, bool_res hC3 _⟩
      · replace hF := ite_f hF hc3
        refine W_skip ?_
        refine nrm_normal ?_
        refine W_seq_reg ?_
        refine WL_assign rfl rfl ?_
        refine WL_nil ?_
        refine W_ret ?_
        have hq4 := Option.some.inj hF
        subst hq4
        refine fn_ret1 rfl rfl ?_
        exact ⟨_, rfl, bool_res hC3 _⟩

theorem c_Q_eqMethod {w0 : World} (a1 : (Int × (List Int) × Int × Int × Int)) (u1 : Value) (g1 : RO [] w0 u1 a1.2.1) (a2 : (Int × (List Int) × Int × Int × Int)) (u2 : Value) (g2 : RO [] w0 u2 a2.2.1) (rr : Bool) (hF : Q.eqMethod a1 a2 = some rr) :
    Calls Try.prog 46 [(.agg #[(.int .i64 a1.1), u1, (.int .i64 a1.2.2.1), (.int .i64 a1.2.2.2.1), (.int .i64 a1.2.2.2.2)]), (.agg #[(.int .i64 a2.1), u2, (.int .i64 a2.2.2.1), (.int .i64 a2.2.2.2.1), (.int .i64 a2.2.2.2.2)])].toArray w0 fun e w' => ∃ v, e = .returned v ∧ Res w0 rr v w' := by
  refine calls_of_W Try.func46 rfl rfl ?_
  have hC0 := Ctx.start w0
  unfold Q.eqMethod at hF
  refine W_seq_reg ?_
  refine WL_box (cs := [(.int .i64 a1.1), u1, (.int .i64 a1.2.2.1), (.int .i64 a1.2.2.2.1), (.int .i64 a1.2.2.2.2)]) hC0 rfl rfl rfl (fun b1 w1 hC1 hB1 => ?_)
  refine WL_box (cs := [(.int .i64 a2.1), u2, (.int .i64 a2.2.2.1), (.int .i64 a2.2.2.2.1), (.int .i64 a2.2.2.2.2)]) hC1 rfl rfl rfl (fun b2 w2 hC2 hB2 => ?_)
  refine WL_assign rfl rfl ?_
  refine WL_nil ?_
  refine W_seq ?_
  refine W_seq_reg ?_
  refine WL_field Try.underlying70 rfl rfl (fun w => ⟨_, Try.sizeOf3 w⟩) rfl rfl ?_
  refine WL_load_box hC2 1 rfl rfl Try.isAgg3 rfl rfl ?_
  refine WL_field Try.underlying70 rfl rfl (fun w => ⟨_, Try.sizeOf3 w⟩) rfl rfl ?_
  refine WL_load_box hC2 0 rfl rfl Try.isAgg3 rfl rfl ?_
  refine WL_neq rfl rfl rfl ?_
  refine WL_nil ?_
  refine W_cond rfl (fun hc1 => ?_) (fun hc1 => ?_)
  · replace hF := ite_t hF hc1
    refine W_seq_reg ?_
    refine WL_assign rfl rfl ?_
    refine WL_nil ?_
    refine W_ret ?_
    refine nrm_ret ?_
    have hq1 := Option.some.inj hF
    subst hq1
    refine fn_ret1 rfl rfl ?_
    exact ⟨_, rfl, bool_res hC2 _⟩
  · replace hF := ite_f hF hc1
    refine W_skip ?_
    refine nrm_normal ?_
    refine W_seq ?_
    refine W_seq_reg ?_
    refine WL_field Try.underlying70 rfl rfl (fun w => ⟨_, Try.sizeOf22 w⟩) rfl rfl ?_
    refine WL_load_box hC2 1 rfl rfl Try.isAgg22 rfl rfl ?_
    refine WL_field Try.underlying70 rfl rfl (fun w => ⟨_, Try.sizeOf22 w⟩) rfl rfl ?_
    refine WL_load_box hC2 0 rfl rfl Try.isAgg22 rfl rfl ?_
    obtain ⟨x1, hr1, hF⟩ := bind_some hF
    refine WL_call Try.call15 rfl rfl (c_Q_eqIntS a1.2.1 u1 (g1.now hC2.keep) a2.2.1 u2 (g2.now hC2.keep) x1 hr1) ?_
    intro _ w3 hv1
    obtain ⟨rfl, hB3⟩ := res_bool hv1
    have hC3 := hC2.grow hB3
    refine WL_not rfl rfl ?_
    refine WL_nil ?_
    refine W_cond rfl (fun hc2 => ?_) (fun hc2 => ?_)
    · replace hF := ite_t hF hc2
      refine W_seq_reg ?_
      refine WL_assign rfl rfl ?_
      refine WL_nil ?_
      refine W_ret ?_
      refine nrm_ret ?_
      have hq2 := Option.some.inj hF
      subst hq2
      refine fn_ret1 rfl rfl ?_
      exact ⟨_, rfl, bool_res hC3 _⟩
    · replace hF := ite_f hF hc2
      refine W_skip ?_
      refine nrm_normal ?_
      refine W_seq ?_
      refine W_seq_reg ?_
      refine WL_field Try.underlying70 rfl rfl (fun w => ⟨_, Try.sizeOf3 w⟩) rfl rfl ?_
      refine WL_load_box hC3 1 rfl rfl Try.isAgg3 rfl rfl ?_
      refine WL_field Try.underlying70 rfl rfl (fun w => ⟨_, Try.sizeOf3 w⟩) rfl rfl ?_
      refine WL_load_box hC3 0 rfl rfl Try.isAgg3 rfl rfl ?_
      refine WL_neq rfl rfl rfl ?_
      refine WL_nil ?_
      refine W_cond rfl (fun hc3 => ?_) (fun hc3 => ?_)
      · replace hF := ite_t hF hc3
        refine W_seq_reg ?_
        refine WL_assign rfl rfl ?_
        refine WL_nil ?_
        refine W_ret ?_
        refine nrm_ret ?_
        have hq3 := Option.some.inj hF
        subst hq3
        refine fn_ret1 rfl rfl ?_
        exact ⟨_, rfl, bool_res hC3 _⟩
      · replace hF := ite_f hF hc3
        refine W_skip ?_
        refine nrm_normal ?_
        refine W_seq ?_
        refine W_seq_reg ?_
        refine WL_field Try.underlying70 rfl rfl (fun w => ⟨_, Try.sizeOf3 w⟩) rfl rfl ?_
        refine WL_load_box hC3 1 rfl rfl Try.isAgg3 rfl rfl ?_
        refine WL_field Try.underlying70 rfl rfl (fun w => ⟨_, Try.sizeOf3 w⟩) rfl rfl ?_
        refine WL_load_box hC3 0 rfl rfl Try.isAgg3 rfl rfl ?_
        refine WL_neq rfl rfl rfl ?_
        refine WL_nil ?_
        refine W_cond rfl (fun hc4 => ?_) (fun hc4 => ?_)
        · replace hF := ite_t hF hc4
          refine W_seq_reg ?_
          refine WL_assign rfl rfl ?_
          refine WL_nil ?_
          refine W_ret ?_
          refine nrm_ret ?_
          have hq4 := Option.some.inj hF
          subst hq4
          refine fn_ret1 rfl rfl ?_
          exact ⟨_, rfl, bool_res hC3 _⟩
        · replace hF := ite_f hF hc4
          refine W_skip ?_
          refine nrm_normal ?_
          refine W_seq ?_
          refine W_seq_reg ?_
          refine WL_field Try.underlying70 rfl rfl (fun w => ⟨_, Try.sizeOf3 w⟩) rfl rfl ?_
          refine WL_load_box hC3 1 rfl rfl Try.isAgg3 rfl rfl ?_
          refine WL_field Try.underlying70 rfl rfl (fun w => ⟨_, Try.sizeOf3 w⟩) rfl rfl ?_
          refine WL_load_box hC3 0 rfl rfl Try.isAgg3 rfl rfl ?_
          refine WL_neq rfl rfl rfl ?_
          refine WL_nil ?_
          refine W_cond rfl (fun hc5 => ?_) (fun hc5 => ?_)
          · replace hF := ite_t hF hc5
            refine W_seq_reg ?_
            refine WL_assign rfl rfl ?_
            refine WL_nil ?_
            refine W_ret ?_
            refine nrm_ret ?_
            have hq5 := Option.some.inj hF
            subst hq5
            refine fn_ret1 rfl rfl ?_
            exact ⟨_, rfl, bool_res hC3 _⟩
          · replace hF := ite_f hF hc5
            refine W_skip ?_
            refine nrm_normal ?_
            refine W_seq_reg ?_
            refine WL_assign rfl rfl ?_
            refine WL_nil ?_
            refine W_ret ?_
            have hq6 := Option.some.inj hF
            subst hq6
            refine fn_ret1 rfl rfl ?_
            exact ⟨_, rfl, bool_res hC3 _⟩

theorem c_Q_eqMethodS {w0 : World} (a1 : (List (Int × (List Int) × Int × Int × Int))) (u1 : Value) (g1 : RO [] w0 u1 a1) (a2 : (List (Int × (List Int) × Int × Int × Int))) (u2 : Value) (g2 : RO [] w0 u2 a2) (rr : Bool) (hF : Q.eqMethodS a1 a2 = some rr) :
    Calls Try.prog 16 [u1, u2].toArray w0 fun e w' => ∃ v, e = .returned v ∧ Res w0 rr v w' := by
  refine calls_of_W Try.func16 rfl rfl ?_
  have hC0 := Ctx.start w0
  unfold Q.eqMethodS at hF
  refine W_seq_reg ?_
  refine WL_assign rfl rfl ?_
  refine WL_nil ?_
  refine W_seq ?_
  refine W_seq_reg ?_
  refine WL_move rfl rfl ?_
  refine WL_len Try.underlying41 g1 rfl rfl ?_
  refine WL_move rfl rfl ?_
  refine WL_len Try.underlying41 g2 rfl rfl ?_
  refine WL_neq rfl rfl rfl ?_
  refine WL_nil ?_
  refine W_cond rfl (fun hc1 => ?_) (fun hc1 => ?_)
  · replace hF := ite_t hF hc1
    refine W_seq_reg ?_
    refine WL_assign rfl rfl ?_
    refine WL_nil ?_
    refine W_ret ?_
    refine nrm_ret ?_
    have hq1 := Option.some.inj hF
    subst hq1
    refine fn_ret1 rfl rfl ?_
    exact ⟨_, rfl, bool_res hC0 _⟩
  · replace hF := ite_f hF hc1
    refine W_skip ?_
    refine nrm_normal ?_
    refine W_seq ?_
    refine W_seq_reg ?_
    refine WL_assign rfl rfl ?_
    refine WL_nil ?_
    obtain ⟨r1, hr1, hF⟩ := bind_some hF
    refine W_norm (fun l w => .inl () = r1 ∧ l = [] ∧ Below w0.heap.size w0 w ∧ Ctx [] w0 w []) ?_ ?_
    · refine W_block ?_
      refine W.sub (l' := [(0, u1), (1, u2), (5, (.int .i64 0))]) ?_ ⟨rfl, rfl, rfl, trivial⟩
      refine W_loop (fun k l w => ∃ x1 : Int, l = [(0, u1), (1, u2), (5, (.int .i64 x1))] ∧ Below w0.heap.size w0 w ∧ Ctx [] w0 w [] ∧ Q.eqMethodS_l1 a1 a2 k x1 = some r1) FUEL ⟨0, rfl, (Below.refl _ _), hC0, hr1⟩ ?_
      clear hr1
      rintro k1 _ w1 ⟨x1, rfl, hB1, hC1, hL1⟩
      cases k1 with
      | zero => rw [Q.eqMethodS_l1] at hL1; cases hL1
      | succ k1 =>
        rw [Q.eqMethodS_l1] at hL1
        refine W_seq ?_
        refine W_seq_reg ?_
        refine WL_move rfl rfl ?_
        refine WL_move rfl rfl ?_
        refine WL_len Try.underlying41 g1 rfl rfl ?_
        refine WL_lss rfl rfl rfl ?_
        refine WL_nil ?_
        refine W_cond rfl (fun hc2 => ?_) (fun hc2 => ?_)
        · replace hL1 := ite_t hL1 hc2
          refine W_skip ?_
          refine nrm_normal ?_
          refine W_seq ?_
          refine W_block ?_
          refine W_seq ?_
          refine W_drawn 10 rfl hmix (fun w2 hB2 => ?_)
          have hC2 := hC1.grow hB2
          refine WA_take 0 rfl (by kernel_rfl) (by kernel_rfl) (by kernel_rfl) rfl (fl_move rfl) ?_
          refine WL_move rfl rfl ?_
          refine WL_nil ?_
          refine WA_take 1 rfl (by kernel_rfl) (by kernel_rfl) (by kernel_rfl) rfl (fl_move rfl) ?_
          refine WL_move rfl rfl ?_
          refine WL_nil ?_
          obtain ⟨x2, hx1, hL1⟩ := bind_some hL1
          refine WA_take 2 rfl (by kernel_rfl) (by kernel_rfl) (by kernel_rfl) rfl (fl_index Try.underlying41 ty70 g1 hx1 rfl rfl) ?_
          refine WL_index Try.underlying41 ty70 g1 hx1 rfl rfl rfl (fun b1 o1 h1 => ?_)
          refine WL_nil ?_
          refine WA_take 4 rfl (by kernel_rfl) (by kernel_rfl) (by kernel_rfl) rfl (fl_move rfl) ?_
          refine WL_move rfl rfl ?_
          refine WL_nil ?_
          refine WA_take 5 rfl (by kernel_rfl) (by kernel_rfl) (by kernel_rfl) rfl (fl_move rfl) ?_
          refine WL_move rfl rfl ?_
          refine WL_nil ?_
          obtain ⟨x3, hx2, hL1⟩ := bind_some hL1
          refine WA_take 6 rfl (by kernel_rfl) (by kernel_rfl) (by kernel_rfl) rfl (fl_index Try.underlying41 ty70 g2 hx2 rfl rfl) ?_
          refine WL_index Try.underlying41 ty70 g2 hx2 rfl rfl rfl (fun b2 o2 h2 => ?_)
          refine WL_nil ?_
          refine WA.sub (l' := [(0, u1), (1, u2), (5, (.int .i64 x1)), (11, (.int .i64 x1)), (12, u1), (13, (.int .i64 (List.length a1 : Int))), (14, (.bool (decide (x1 < (List.length a1 : Int))))), (17, u1), (18, (.int .i64 x1)), (19, (ptr b1 o1)), (21, u2), (22, (.int .i64 x1)), (23, (ptr b2 o2))]) ?_ ⟨rfl, rfl, rfl, rfl, rfl, rfl, rfl, rfl, rfl, rfl, rfl, rfl, rfl, trivial⟩
          refine WA_postsE [⟨3, [], fun vs => PW.ro [] w0 x2, []⟩, ⟨7, [], fun vs => PW.ro [] w0 x3, []⟩] [[], []] 2 rfl (by kernel_rfl) (by kernel_rfl) rfl ?_ ?_
          · refine StepsE_cons rfl ?_ ?_
            · intro w3 hB3
              refine DepsE_nil ?_
              refine ⟨_, rfl, ?_⟩
              refine WL_load ty70 h1 (hC2.keep.then hB3) rfl rfl (fun v3 h5 => ?_)
              refine WL_nil ?_
              exact FinE_val (Below.refl _ _) rfl rfl ⟨rfl, h5⟩
            refine StepsE_cons rfl ?_ ?_
            · intro w3 hB3
              refine DepsE_nil ?_
              refine ⟨_, rfl, ?_⟩
              refine WL_load ty70 h2 (hC2.keep.then hB3) rfl rfl (fun v6 h8 => ?_)
              refine WL_nil ?_
              exact FinE_val (Below.refl _ _) rfl rfl ⟨rfl, h8⟩
            exact StepsE_nil
          · intro w4 hB4
            refine AllE_cons rfl rfl rfl ?_
            rintro v3 _ ⟨rfl, h5⟩
            obtain ⟨v2, rfl, h4⟩ := ro_st70 h5
            refine AllE_cons rfl rfl rfl ?_
            rintro v6 _ ⟨rfl, h8⟩
            obtain ⟨v5, rfl, h7⟩ := ro_st70 h8
            refine AllE_nil ?_
            intro hn1 hb1
            have hC3 := hC2.grow hB4
            obtain ⟨x4, hr2, hL1⟩ := bind_some hL1
            refine WA_one 8 (by kernel_rfl) rfl ?_
            refine WL_call Try.call46 rfl rfl (c_Q_eqMethod x2 v2 (h4.now hC3.keep) x3 v5 (h7.now hC3.keep) x4 hr2) ?_
            intro _ w5 hv1
            obtain ⟨rfl, hB5⟩ := res_bool hv1
            have hC4 := hC3.grow hB5
            refine WL_nil ?_
            refine WA_take 9 rfl (by kernel_rfl) (by kernel_rfl) (by kernel_rfl) rfl (fl_not rfl) ?_
            refine WL_not rfl rfl ?_
            refine WL_nil ?_
            refine WA_done (by kernel_rfl) ?_
            refine nrm_normal ?_
            refine W_cond rfl (fun hc3 => ?_) (fun hc3 => ?_)
            · replace hL1 := ite_t hL1 hc3
              refine W_seq_reg ?_
              refine WL_assign rfl rfl ?_
              refine WL_nil ?_
              refine W_ret ?_
              refine blk_ret ?_
              refine nrm_ret ?_
              refine nrm_ret ?_
              refine blk_ret ?_
              refine nrm_ret ?_
              refine nrm_ret ?_
              have hq2 := Option.some.inj hL1
              subst hq2
              dsimp only at hF
              have hq3 := Option.some.inj hF
              subst hq3
              refine fn_ret1 rfl rfl ?_
              exact ⟨_, rfl, bool_res hC4 _⟩
            · replace hL1 := ite_f hL1 hc3
              refine W_skip ?_
              refine blk_normal ?_
              refine nrm_normal ?_
              refine W_reg ?_
              refine WL_move rfl rfl ?_
              refine WL_add rfl rfl rfl ?_
              refine WL_assign rfl rfl ?_
              refine WL_nil ?_
              refine nrm_sub (l' := [(0, u1), (1, u2), (5, (.int .i64 (w64 (x1 + 1))))]) ⟨rfl, rfl, rfl, trivial⟩ ?_
              exact ⟨k1, Nat.lt_succ_self _, w64 (x1 + 1), rfl, ((((Keep.of hB1).then hB2).then hB4).then hB5).below, hC4, hL1⟩
        · replace hL1 := ite_f hL1 hc2
          refine W_exit ?_
          refine nrm_exit ?_
          refine nrm_exit ?_
          refine blk_exit ?_
          have hq4 := Option.some.inj hL1
          subst hq4
          refine nrm_sub (l' := []) trivial ?_
          exact ⟨rfl, rfl, (Keep.of hB1).below, hC1⟩
    · rintro l2 _ w6 hs2 ⟨rfl, rfl, hB6, hC5⟩
      try dsimp only at hF
      refine nrm_sub' hs2 ?_
      clear hs2
      refine W_seq_reg ?_
      refine WL_assign rfl rfl ?_
      refine WL_nil ?_
      refine W_ret ?_
      have hq5 := Option.some.inj hF
      subst hq5
      refine fn_ret1 rfl rfl ?_
      exact ⟨_, rfl, bool_res hC5 _⟩

theorem c_Q_eqSource {w0 : World} (a1 : ((List (Int × (List Int))) × Int)) (u1 : Value) (g1 : RO [] w0 u1 a1.1) (a2 : ((List (Int × (List Int))) × Int)) (u2 : Value) (g2 : RO [] w0 u2 a2.1) (rr : Bool) (hF : Q.eqSource a1 a2 = some rr) :
    Calls Try.prog 17 [(.agg #[u1, (.int .i64 a1.2)]), (.agg #[u2, (.int .i64 a2.2)])].toArray w0 fun e w' => ∃ v, e = .returned v ∧ Res w0 rr v w' := by
  refine calls_of_W Try.func17 rfl rfl ?_
  have hC0 := Ctx.start w0
  unfold Q.eqSource at hF
  refine W_seq_reg ?_
  refine WL_box (cs := [u1, (.int .i64 a1.2)]) hC0 rfl rfl rfl (fun b1 w1 hC1 hB1 => ?_)
  refine WL_box (cs := [u2, (.int .i64 a2.2)]) hC1 rfl rfl rfl (fun b2 w2 hC2 hB2 => ?_)
  refine WL_assign rfl rfl ?_
  refine WL_nil ?_
  refine W_seq ?_
  refine W_seq_reg ?_
  refine WL_field Try.underlying44 rfl rfl (fun w => ⟨_, Try.sizeOf34 w⟩) rfl rfl ?_
  refine WL_load_box hC2 1 rfl rfl Try.isAgg34 rfl rfl ?_
  refine WL_field Try.underlying44 rfl rfl (fun w => ⟨_, Try.sizeOf34 w⟩) rfl rfl ?_
  refine WL_load_box hC2 0 rfl rfl Try.isAgg34 rfl rfl ?_
  obtain ⟨x1, hr1, hF⟩ := bind_some hF
  refine WL_call Try.call13 rfl rfl (c_Q_eqFactS a1.1 u1 (g1.now hC2.keep) a2.1 u2 (g2.now hC2.keep) x1 hr1) ?_
  intro _ w3 hv1
  obtain ⟨rfl, hB3⟩ := res_bool hv1
  have hC3 := hC2.grow hB3
  refine WL_not rfl rfl ?_
  refine WL_nil ?_
  refine W_cond rfl (fun hc1 => ?_) (fun hc1 => ?_)
  · replace hF := ite_t hF hc1
    refine W_seq_reg ?_
    refine WL_assign rfl rfl ?_
    refine WL_nil ?_
    refine W_ret ?_
    refine nrm_ret ?_
    have hq1 := Option.some.inj hF
    subst hq1
    refine fn_ret1 rfl rfl ?_
    exact ⟨_, rfl, bool_res hC3 _⟩
  · replace hF := ite_f hF hc1
    refine W_skip ?_
    refine nrm_normal ?_
    refine W_seq ?_
    refine W_seq_reg ?_
    refine WL_field Try.underlying44 rfl rfl (fun w => ⟨_, Try.sizeOf3 w⟩) rfl rfl ?_
    refine WL_load_box hC3 1 rfl rfl Try.isAgg3 rfl rfl ?_
    refine WL_field Try.underlying44 rfl rfl (fun w => ⟨_, Try.sizeOf3 w⟩) rfl rfl ?_
    refine WL_load_box hC3 0 rfl rfl Try.isAgg3 rfl rfl ?_
    refine WL_neq rfl rfl rfl ?_
    refine WL_nil ?_
    refine W_cond rfl (fun hc2 => ?_) (fun hc2 => ?_)
    · replace hF := ite_t hF hc2
      refine W_seq_reg ?_
      refine WL_assign rfl rfl ?_
      refine WL_nil ?_
      refine W_ret ?_
      refine nrm_ret ?_
      have hq2 := Option.some.inj hF
      subst hq2
      refine fn_ret1 rfl rfl ?_
      exact ⟨_, rfl, bool_res hC3 _⟩
    · replace hF := ite_f hF hc2
      refine W_skip ?_
      refine nrm_normal ?_
      refine W_seq_reg ?_
      refine WL_assign rfl rfl ?_
      refine WL_nil ?_
      refine W_ret ?_
      have hq3 := Option.some.inj hF
      subst hq3
      refine fn_ret1 rfl rfl ?_
      exact ⟨_, rfl, bool_res hC3 _⟩

theorem c_Q_markIntS {w0 : World} {Fs : List (List Nat)} (a1 : (List Int)) (u1 : Value) (a2 : Int) (hH : Hold [Item.own u1 (a1 : (List Int))] w0 Fs) (hn : Fs.flatten.Nodup) (rr : (Int × (List Int))) (hF : Q.markIntS a1 a2 = some rr) :
    Calls Try.prog 18 [u1, (.int .i64 a2)].toArray w0 fun e w' => ∃ v, e = .returned v ∧ v = (.int .i64 rr.1) ∧ Ctx Fs.flatten w0 w' [Item.own u1 (rr.2 : (List Int))] := by
  refine calls_of_W Try.func18 rfl rfl ?_
  have hC0 := Ctx.startIn hH hn
  unfold Q.markIntS at hF
  refine W_seq_reg ?_
  refine WL_assign rfl rfl ?_
  refine WL_nil ?_
  refine W_seq ?_
  refine W_seq_reg ?_
  refine WL_assign rfl rfl ?_
  refine WL_nil ?_
  obtain ⟨r1, hr1, hF⟩ := bind_some hF
  refine W_norm (fun l w => ∃ x4 : (List Int), ∃ x5 : Int, (x4, x5) = r1 ∧ l = [(1, (.int .i64 x5))] ∧ Ctx Fs.flatten w0 w [Item.own u1 (x4 : (List Int))]) ?_ ?_
  · refine W_block ?_
    refine W.sub (l' := [(0, u1), (1, (.int .i64 a2)), (5, (.int .i64 0))]) ?_ ⟨rfl, rfl, rfl, trivial⟩
    refine W_loop (fun k l w => ∃ x1 : (List Int), ∃ x2 : Int, ∃ x3 : Int, l = [(0, u1), (1, (.int .i64 x2)), (5, (.int .i64 x3))] ∧ Ctx Fs.flatten w0 w [Item.own u1 (x1 : (List Int))] ∧ Q.markIntS_l1 k x1 x2 x3 = some r1) FUEL ⟨a1, a2, 0, rfl, hC0, hr1⟩ ?_
    clear hr1
    rintro k1 _ w1 ⟨x1, x2, x3, rfl, hC1, hL1⟩
    cases k1 with
    | zero => rw [Q.markIntS_l1] at hL1; cases hL1
    | succ k1 =>
      rw [Q.markIntS_l1] at hL1
      refine W_seq ?_
      refine W_seq_reg ?_
      refine WL_move rfl rfl ?_
      refine WL_move rfl rfl ?_
      refine WL_len Try.underlying22 (hC1.ro 0 rfl) rfl rfl ?_
      refine WL_lss rfl rfl rfl ?_
      refine WL_nil ?_
      refine W_cond rfl (fun hc1 => ?_) (fun hc1 => ?_)
      · replace hL1 := ite_t hL1 hc1
        refine W_skip ?_
        refine nrm_normal ?_
        refine W_seq ?_
        refine W_block ?_
        refine W_seq_reg ?_
        refine WL_move rfl rfl ?_
        refine WL_move rfl rfl ?_
        refine WL_move rfl rfl ?_
        obtain ⟨x6, hx1, hL1⟩ := bind_some hL1
        refine WL_index_own hC1 0 rfl Try.underlying22 ty3 hx1 rfl rfl rfl (fun b1 hE1 => ?_)
        have hC3 := hC1.triv (int_val (x2))
        refine WL_store_elem hC3 0 rfl ty3 hE1 hx1 rfl rfl rfl (fun w2 hC2 => ?_)
        try dsimp only [List.set] at hC2
        refine WL_nil ?_
        refine W_reg ?_
        refine WL_move rfl rfl ?_
        refine WL_add rfl rfl rfl ?_
        refine WL_assign rfl rfl ?_
        refine WL_nil ?_
        refine blk_normal ?_
        refine nrm_normal ?_
        refine W_reg ?_
        refine WL_move rfl rfl ?_
        refine WL_add rfl rfl rfl ?_
        refine WL_assign rfl rfl ?_
        refine WL_nil ?_
        refine nrm_sub (l' := [(0, u1), (1, (.int .i64 (w64 (x2 + 1)))), (5, (.int .i64 (w64 (x3 + 1))))]) ⟨rfl, rfl, rfl, trivial⟩ ?_
        exact ⟨k1, Nat.lt_succ_self _, (List.set x1 (Int.toNat x3) x2), w64 (x2 + 1), w64 (x3 + 1), rfl, hC2, hL1⟩
      · replace hL1 := ite_f hL1 hc1
        refine W_exit ?_
        refine nrm_exit ?_
        refine nrm_exit ?_
        refine blk_exit ?_
        have hq1 := Option.some.inj hL1
        subst hq1
        refine nrm_sub (l' := [(1, (.int .i64 x2))]) ⟨rfl, trivial⟩ ?_
        exact ⟨x1, x2, rfl, rfl, hC1⟩
  · rintro l2 _ w3 hs2 ⟨x4, x5, rfl, rfl, hC4⟩
    try dsimp only at hF
    refine nrm_sub' hs2 ?_
    clear hs2
    refine W_seq_reg ?_
    refine WL_move rfl rfl ?_
    refine WL_assign rfl rfl ?_
    refine WL_nil ?_
    refine W_ret ?_
    have hq2 := Option.some.inj hF
    subst hq2
    refine fn_ret1 rfl rfl ?_
    exact ⟨_, rfl, rfl, hC4⟩

theorem c_Q_markMethodS {w0 : World} {Fs : List (List Nat)} (a1 : (List (Int × (List Int) × Int × Int × Int))) (u1 : Value) (a2 : Int) (hH : Hold [Item.own u1 (a1 : (List (Int × (List Int) × Int × Int × Int)))] w0 Fs) (hn : Fs.flatten.Nodup) (rr : (Int × (List (Int × (List Int) × Int × Int × Int)))) (hF : Q.markMethodS a1 a2 = some rr) :
    Calls Try.prog 19 [u1, (.int .i64 a2)].toArray w0 fun e w' => ∃ v, e = .returned v ∧ v = (.int .i64 rr.1) ∧ Ctx Fs.flatten w0 w' [Item.own u1 (rr.2 : (List (Int × (List Int) × Int × Int × Int)))] := by
  refine calls_of_W Try.func19 rfl rfl ?_
  have hC0 := Ctx.startIn hH hn
  unfold Q.markMethodS at hF
  refine W_seq_reg ?_
  refine WL_assign rfl rfl ?_
  refine WL_nil ?_
  refine W_seq ?_
  refine W_seq_reg ?_
  refine WL_assign rfl rfl ?_
  refine WL_nil ?_
  obtain ⟨r1, hr1, hF⟩ := bind_some hF
  refine W_norm (fun l w => ∃ x4 : (List (Int × (List Int) × Int × Int × Int)), ∃ x5 : Int, (x4, x5) = r1 ∧ l = [(1, (.int .i64 x5))] ∧ Ctx Fs.flatten w0 w [Item.own u1 (x4 : (List (Int × (List Int) × Int × Int × Int)))]) ?_ ?_
  · refine W_block ?_
    refine W.sub (l' := [(0, u1), (1, (.int .i64 a2)), (5, (.int .i64 0))]) ?_ ⟨rfl, rfl, rfl, trivial⟩
    refine W_loop (fun k l w => ∃ x1 : (List (Int × (List Int) × Int × Int × Int)), ∃ x2 : Int, ∃ x3 : Int, l = [(0, u1), (1, (.int .i64 x2)), (5, (.int .i64 x3))] ∧ Ctx Fs.flatten w0 w [Item.own u1 (x1 : (List (Int × (List Int) × Int × Int × Int)))] ∧ Q.markMethodS_l1 k x1 x2 x3 = some r1) FUEL ⟨a1, a2, 0, rfl, hC0, hr1⟩ ?_
    clear hr1
    rintro k1 _ w1 ⟨x1, x2, x3, rfl, hC1, hL1⟩
    cases k1 with
    | zero => rw [Q.markMethodS_l1] at hL1; cases hL1
    | succ k1 =>
      rw [Q.markMethodS_l1] at hL1
      refine W_seq ?_
      refine W_seq_reg ?_
      refine WL_move rfl rfl ?_
      refine WL_move rfl rfl ?_
      refine WL_len Try.underlying41 (hC1.ro 0 rfl) rfl rfl ?_
      refine WL_lss rfl rfl rfl ?_
      refine WL_nil ?_
      refine W_cond rfl (fun hc1 => ?_) (fun hc1 => ?_)
      · replace hL1 := ite_t hL1 hc1
        refine W_skip ?_
        refine nrm_normal ?_
        refine W_seq ?_
        refine W_block ?_
        refine W_seq_reg ?_
        refine WL_move rfl rfl ?_
        refine WL_move rfl rfl ?_
        refine WL_move rfl rfl ?_
        obtain ⟨x6, hx1, hL1⟩ := bind_some hL1
        refine WL_index_own hC1 0 rfl Try.underlying41 ty70 hx1 rfl rfl rfl (fun b1 hE1 => ?_)
        refine WL_field Try.underlying70 rfl rfl (fun w => ⟨_, Try.sizeOf3 w⟩) rfl rfl ?_
        obtain ⟨cs1, hC3⟩ := hC1.openElem hx1
        obtain ⟨v1, he1, hC4⟩ := st70_own (hC3.cellsOwn rfl)
        obtain rfl := cells_of_agg he1
        refine WL_store_hole (fo := 0) (cs' := [(.int .i64 x2), v1, (.int .i64 x6.2.2.1), (.int .i64 x6.2.2.2.1), (.int .i64 x6.2.2.2.2)]) hC4 1 rfl hE1 rfl rfl rfl rfl Try.sizeOf3 rfl rfl (fun w2 hC2 => ?_)
        try dsimp only [List.set] at hC2
        have hC5 : Ctx Fs.flatten w0 _ [Item.hole u1 (x1 : (List (Int × (List Int) × Int × Int × Int))) (Int.toNat x3) [(.int .i64 x2), v1, (.int .i64 x6.2.2.1), (.int .i64 x6.2.2.2.1), (.int .i64 x6.2.2.2.2)], Item.own v1 (x6.2.1 : (List Int))] := hC2.front 1 rfl
        have hC7 : Ctx Fs.flatten w0 _ [Item.own v1 (x6.2.1 : (List Int)), Item.hole u1 (x1 : (List (Int × (List Int) × Int × Int × Int))) (Int.toNat x3) [(.int .i64 x2), v1, (.int .i64 x6.2.2.1), (.int .i64 x6.2.2.2.1), (.int .i64 x6.2.2.2.2)]] := hC5.front 1 rfl
        have hC6 := own_st70 x2 v1 x6.2.1 x6.2.2.1 x6.2.2.2.1 x6.2.2.2.2 hC7
        have hC8 := hC6.ownCells.closeElem
        refine WL_nil ?_
        refine W_seq_reg ?_
        refine WL_move rfl rfl ?_
        refine WL_add rfl rfl rfl ?_
        refine WL_assign rfl rfl ?_
        refine WL_nil ?_
        refine W_seq_reg ?_
        refine WL_move rfl rfl ?_
        refine WL_move rfl rfl ?_
        obtain ⟨x7, hx2, hL1⟩ := bind_some hL1
        refine WL_index_own hC8 0 rfl Try.underlying41 ty70 hx2 rfl rfl rfl (fun b2 hE2 => ?_)
        refine WL_field Try.underlying70 rfl rfl (fun w => ⟨_, Try.sizeOf22 w⟩) rfl rfl ?_
        obtain ⟨cs2, hC9⟩ := hC8.openElem hx2
        obtain ⟨v2, he2, hC10⟩ := st70_own (hC9.cellsOwn rfl)
        obtain rfl := cells_of_agg he2
        refine WL_load_hole (fo := 1) hC10 1 rfl hE2 rfl rfl Try.isAgg22 rfl rfl ?_
        refine WL_move rfl rfl ?_
        obtain ⟨x8, hr2, hL1⟩ := bind_some hL1
        obtain ⟨Fs1, hH1, hn1, hF1, hO1, hb1⟩ := Ctx.lend2 (As := [Item.hole u1 ((List.set x1 (Int.toNat x3) (x2, x6.2.1, x6.2.2.1, x6.2.2.2.1, x6.2.2.2.2)) : (List (Int × (List Int) × Int × Int × Int))) (Int.toNat x3) [(.int .i64 x7.1), v2, (.int .i64 x7.2.2.1), (.int .i64 x7.2.2.2.1), (.int .i64 x7.2.2.2.2)]]) [Item.own v2 (x7.2.1 : (List Int))] hC10
        refine WL_call Try.call18 rfl rfl (c_Q_markIntS x7.2.1 v2 (w64 (x2 + 1)) hH1 hn1 x8 hr2) ?_
        rintro _ w3 ⟨rfl, hq1⟩
        have hC12 : Ctx Fs.flatten w0 w3 [Item.own v2 (x8.2 : (List Int)), Item.hole u1 ((List.set x1 (Int.toNat x3) (x2, x6.2.1, x6.2.2.1, x6.2.2.2.1, x6.2.2.2.2)) : (List (Int × (List Int) × Int × Int × Int))) (Int.toNat x3) [(.int .i64 x7.1), v2, (.int .i64 x7.2.2.1), (.int .i64 x7.2.2.2.1), (.int .i64 x7.2.2.2.2)]] := hb1 _ _ hq1
        have hC13 : Ctx Fs.flatten w0 _ [Item.hole u1 ((List.set x1 (Int.toNat x3) (x2, x6.2.1, x6.2.2.1, x6.2.2.2.1, x6.2.2.2.2)) : (List (Int × (List Int) × Int × Int × Int))) (Int.toNat x3) [(.int .i64 x7.1), v2, (.int .i64 x7.2.2.1), (.int .i64 x7.2.2.2.1), (.int .i64 x7.2.2.2.2)], Item.own v2 (x8.2 : (List Int))] := hC12.front 1 rfl
        have hC15 : Ctx Fs.flatten w0 _ [Item.own v2 (x8.2 : (List Int)), Item.hole u1 ((List.set x1 (Int.toNat x3) (x2, x6.2.1, x6.2.2.1, x6.2.2.2.1, x6.2.2.2.2)) : (List (Int × (List Int) × Int × Int × Int))) (Int.toNat x3) [(.int .i64 x7.1), v2, (.int .i64 x7.2.2.1), (.int .i64 x7.2.2.2.1), (.int .i64 x7.2.2.2.2)]] := hC13.front 1 rfl
        have hC14 := own_st70 x7.1 v2 x8.2 x7.2.2.1 x7.2.2.2.1 x7.2.2.2.2 hC15
        have hC16 := hC14.ownCells.closeElem
        refine WL_assign rfl rfl ?_
        refine WL_nil ?_
        refine W_seq_reg ?_
        refine WL_move rfl rfl ?_
        refine WL_move rfl rfl ?_
        refine WL_move rfl rfl ?_
        obtain ⟨x9, hx3, hL1⟩ := bind_some hL1
        refine WL_index_own hC16 0 rfl Try.underlying41 ty70 hx3 rfl rfl rfl (fun b3 hE3 => ?_)
        refine WL_field Try.underlying70 rfl rfl (fun w => ⟨_, Try.sizeOf3 w⟩) rfl rfl ?_
        obtain ⟨cs3, hC18⟩ := hC16.openElem hx3
        obtain ⟨v3, he3, hC19⟩ := st70_own (hC18.cellsOwn rfl)
        obtain rfl := cells_of_agg he3
        refine WL_store_hole (fo := 2) (cs' := [(.int .i64 x9.1), v3, (.int .i64 x8.1), (.int .i64 x9.2.2.2.1), (.int .i64 x9.2.2.2.2)]) hC19 1 rfl hE3 rfl rfl rfl rfl Try.sizeOf3 rfl rfl (fun w4 hC17 => ?_)
        try dsimp only [List.set] at hC17
        have hC20 : Ctx Fs.flatten w0 _ [Item.hole u1 ((List.set (List.set x1 (Int.toNat x3) (x2, x6.2.1, x6.2.2.1, x6.2.2.2.1, x6.2.2.2.2)) (Int.toNat x3) (x7.1, x8.2, x7.2.2.1, x7.2.2.2.1, x7.2.2.2.2)) : (List (Int × (List Int) × Int × Int × Int))) (Int.toNat x3) [(.int .i64 x9.1), v3, (.int .i64 x8.1), (.int .i64 x9.2.2.2.1), (.int .i64 x9.2.2.2.2)], Item.own v3 (x9.2.1 : (List Int))] := hC17.front 1 rfl
        have hC22 : Ctx Fs.flatten w0 _ [Item.own v3 (x9.2.1 : (List Int)), Item.hole u1 ((List.set (List.set x1 (Int.toNat x3) (x2, x6.2.1, x6.2.2.1, x6.2.2.2.1, x6.2.2.2.2)) (Int.toNat x3) (x7.1, x8.2, x7.2.2.1, x7.2.2.2.1, x7.2.2.2.2)) : (List (Int × (List Int) × Int × Int × Int))) (Int.toNat x3) [(.int .i64 x9.1), v3, (.int .i64 x8.1), (.int .i64 x9.2.2.2.1), (.int .i64 x9.2.2.2.2)]] := hC20.front 1 rfl
        have hC21 := own_st70 x9.1 v3 x9.2.1 x8.1 x9.2.2.2.1 x9.2.2.2.2 hC22
        have hC23 := hC21.ownCells.closeElem
        refine WL_nil ?_
        refine W_seq_reg ?_
        refine WL_move rfl rfl ?_
        refine WL_add rfl rfl rfl ?_
        refine WL_assign rfl rfl ?_
        refine WL_nil ?_
        refine W_seq_reg ?_
        refine WL_move rfl rfl ?_
        refine WL_move rfl rfl ?_
        refine WL_move rfl rfl ?_
        obtain ⟨x10, hx4, hL1⟩ := bind_some hL1
        refine WL_index_own hC23 0 rfl Try.underlying41 ty70 hx4 rfl rfl rfl (fun b4 hE4 => ?_)
        refine WL_field Try.underlying70 rfl rfl (fun w => ⟨_, Try.sizeOf3 w⟩) rfl rfl ?_
        obtain ⟨cs4, hC25⟩ := hC23.openElem hx4
        obtain ⟨v4, he4, hC26⟩ := st70_own (hC25.cellsOwn rfl)
        obtain rfl := cells_of_agg he4
        refine WL_store_hole (fo := 3) (cs' := [(.int .i64 x10.1), v4, (.int .i64 x10.2.2.1), (.int .i64 (w64 (x8.1 + 1))), (.int .i64 x10.2.2.2.2)]) hC26 1 rfl hE4 rfl rfl rfl rfl Try.sizeOf3 rfl rfl (fun w5 hC24 => ?_)
        try dsimp only [List.set] at hC24
        have hC27 : Ctx Fs.flatten w0 _ [Item.hole u1 ((List.set (List.set (List.set x1 (Int.toNat x3) (x2, x6.2.1, x6.2.2.1, x6.2.2.2.1, x6.2.2.2.2)) (Int.toNat x3) (x7.1, x8.2, x7.2.2.1, x7.2.2.2.1, x7.2.2.2.2)) (Int.toNat x3) (x9.1, x9.2.1, x8.1, x9.2.2.2.1, x9.2.2.2.2)) : (List (Int × (List Int) × Int × Int × Int))) (Int.toNat x3) [(.int .i64 x10.1), v4, (.int .i64 x10.2.2.1), (.int .i64 (w64 (x8.1 + 1))), (.int .i64 x10.2.2.2.2)], Item.own v4 (x10.2.1 : (List Int))] := hC24.front 1 rfl
        have hC29 : Ctx Fs.flatten w0 _ [Item.own v4 (x10.2.1 : (List Int)), Item.hole u1 ((List.set (List.set (List.set x1 (Int.toNat x3) (x2, x6.2.1, x6.2.2.1, x6.2.2.2.1, x6.2.2.2.2)) (Int.toNat x3) (x7.1, x8.2, x7.2.2.1, x7.2.2.2.1, x7.2.2.2.2)) (Int.toNat x3) (x9.1, x9.2.1, x8.1, x9.2.2.2.1, x9.2.2.2.2)) : (List (Int × (List Int) × Int × Int × Int))) (Int.toNat x3) [(.int .i64 x10.1), v4, (.int .i64 x10.2.2.1), (.int .i64 (w64 (x8.1 + 1))), (.int .i64 x10.2.2.2.2)]] := hC27.front 1 rfl
        have hC28 := own_st70 x10.1 v4 x10.2.1 x10.2.2.1 (w64 (x8.1 + 1)) x10.2.2.2.2 hC29
        have hC30 := hC28.ownCells.closeElem
        refine WL_nil ?_
        refine W_seq_reg ?_
        refine WL_move rfl rfl ?_
        refine WL_add rfl rfl rfl ?_
        refine WL_assign rfl rfl ?_
        refine WL_nil ?_
        refine W_seq_reg ?_
        refine WL_move rfl rfl ?_
        refine WL_move rfl rfl ?_
        refine WL_move rfl rfl ?_
        obtain ⟨x11, hx5, hL1⟩ := bind_some hL1
        refine WL_index_own hC30 0 rfl Try.underlying41 ty70 hx5 rfl rfl rfl (fun b5 hE5 => ?_)
        refine WL_field Try.underlying70 rfl rfl (fun w => ⟨_, Try.sizeOf3 w⟩) rfl rfl ?_
        obtain ⟨cs5, hC32⟩ := hC30.openElem hx5
        obtain ⟨v5, he5, hC33⟩ := st70_own (hC32.cellsOwn rfl)
        obtain rfl := cells_of_agg he5
        refine WL_store_hole (fo := 4) (cs' := [(.int .i64 x11.1), v5, (.int .i64 x11.2.2.1), (.int .i64 x11.2.2.2.1), (.int .i64 (w64 ((w64 (x8.1 + 1)) + 1)))]) hC33 1 rfl hE5 rfl rfl rfl rfl Try.sizeOf3 rfl rfl (fun w6 hC31 => ?_)
        try dsimp only [List.set] at hC31
        have hC34 : Ctx Fs.flatten w0 _ [Item.hole u1 ((List.set (List.set (List.set (List.set x1 (Int.toNat x3) (x2, x6.2.1, x6.2.2.1, x6.2.2.2.1, x6.2.2.2.2)) (Int.toNat x3) (x7.1, x8.2, x7.2.2.1, x7.2.2.2.1, x7.2.2.2.2)) (Int.toNat x3) (x9.1, x9.2.1, x8.1, x9.2.2.2.1, x9.2.2.2.2)) (Int.toNat x3) (x10.1, x10.2.1, x10.2.2.1, w64 (x8.1 + 1), x10.2.2.2.2)) : (List (Int × (List Int) × Int × Int × Int))) (Int.toNat x3) [(.int .i64 x11.1), v5, (.int .i64 x11.2.2.1), (.int .i64 x11.2.2.2.1), (.int .i64 (w64 ((w64 (x8.1 + 1)) + 1)))], Item.own v5 (x11.2.1 : (List Int))] := hC31.front 1 rfl
        have hC36 : Ctx Fs.flatten w0 _ [Item.own v5 (x11.2.1 : (List Int)), Item.hole u1 ((List.set (List.set (List.set (List.set x1 (Int.toNat x3) (x2, x6.2.1, x6.2.2.1, x6.2.2.2.1, x6.2.2.2.2)) (Int.toNat x3) (x7.1, x8.2, x7.2.2.1, x7.2.2.2.1, x7.2.2.2.2)) (Int.toNat x3) (x9.1, x9.2.1, x8.1, x9.2.2.2.1, x9.2.2.2.2)) (Int.toNat x3) (x10.1, x10.2.1, x10.2.2.1, w64 (x8.1 + 1), x10.2.2.2.2)) : (List (Int × (List Int) × Int × Int × Int))) (Int.toNat x3) [(.int .i64 x11.1), v5, (.int .i64 x11.2.2.1), (.int .i64 x11.2.2.2.1), (.int .i64 (w64 ((w64 (x8.1 + 1)) + 1)))]] := hC34.front 1 rfl
        have hC35 := own_st70 x11.1 v5 x11.2.1 x11.2.2.1 x11.2.2.2.1 (w64 ((w64 (x8.1 + 1)) + 1)) hC36
        have hC37 := hC35.ownCells.closeElem
        refine WL_nil ?_
        refine W_reg ?_
        refine WL_move rfl rfl ?_
        refine WL_add rfl rfl rfl ?_
        refine WL_assign rfl rfl ?_
        refine WL_nil ?_
        refine blk_normal ?_
        refine nrm_normal ?_
        refine W_reg ?_
        refine WL_move rfl rfl ?_
        refine WL_add rfl rfl rfl ?_
        refine WL_assign rfl rfl ?_
        refine WL_nil ?_
        refine nrm_sub (l' := [(0, u1), (1, (.int .i64 (w64 ((w64 ((w64 (x8.1 + 1)) + 1)) + 1)))), (5, (.int .i64 (w64 (x3 + 1))))]) ⟨rfl, rfl, rfl, trivial⟩ ?_
        exact ⟨k1, Nat.lt_succ_self _, (List.set (List.set (List.set (List.set (List.set x1 (Int.toNat x3) (x2, x6.2.1, x6.2.2.1, x6.2.2.2.1, x6.2.2.2.2)) (Int.toNat x3) (x7.1, x8.2, x7.2.2.1, x7.2.2.2.1, x7.2.2.2.2)) (Int.toNat x3) (x9.1, x9.2.1, x8.1, x9.2.2.2.1, x9.2.2.2.2)) (Int.toNat x3) (x10.1, x10.2.1, x10.2.2.1, w64 (x8.1 + 1), x10.2.2.2.2)) (Int.toNat x3) (x11.1, x11.2.1, x11.2.2.1, x11.2.2.2.1, w64 ((w64 (x8.1 + 1)) + 1))), w64 ((w64 ((w64 (x8.1 + 1)) + 1)) + 1), w64 (x3 + 1), rfl, hC37, hL1⟩
      · replace hL1 := ite_f hL1 hc1
        refine W_exit ?_
        refine nrm_exit ?_
        refine nrm_exit ?_
        refine blk_exit ?_
        have hq2 := Option.some.inj hL1
        subst hq2
        refine nrm_sub (l' := [(1, (.int .i64 x2))]) ⟨rfl, trivial⟩ ?_
        exact ⟨x1, x2, rfl, rfl, hC1⟩
  · rintro l2 _ w7 hs2 ⟨x4, x5, rfl, rfl, hC38⟩
    try dsimp only at hF
    refine nrm_sub' hs2 ?_
    clear hs2
    refine W_seq_reg ?_
    refine WL_move rfl rfl ?_
    refine WL_assign rfl rfl ?_
    refine WL_nil ?_
    refine W_ret ?_
    have hq3 := Option.some.inj hF
    subst hq3
    refine fn_ret1 rfl rfl ?_
    exact ⟨_, rfl, rfl, hC38⟩

theorem c_Q_markFactS {w0 : World} {Fs : List (List Nat)} (a1 : (List (Int × (List Int)))) (u1 : Value) (a2 : Int) (hH : Hold [Item.own u1 (a1 : (List (Int × (List Int))))] w0 Fs) (hn : Fs.flatten.Nodup) (rr : (Int × (List (Int × (List Int))))) (hF : Q.markFactS a1 a2 = some rr) :
    Calls Try.prog 22 [u1, (.int .i64 a2)].toArray w0 fun e w' => ∃ v, e = .returned v ∧ v = (.int .i64 rr.1) ∧ Ctx Fs.flatten w0 w' [Item.own u1 (rr.2 : (List (Int × (List Int))))] := by
  refine calls_of_W Try.func22 rfl rfl ?_
  have hC0 := Ctx.startIn hH hn
  unfold Q.markFactS at hF
  refine W_seq_reg ?_
  refine WL_assign rfl rfl ?_
  refine WL_nil ?_
  refine W_seq ?_
  refine W_seq_reg ?_
  refine WL_assign rfl rfl ?_
  refine WL_nil ?_
  obtain ⟨r1, hr1, hF⟩ := bind_some hF
  refine W_norm (fun l w => ∃ x4 : (List (Int × (List Int))), ∃ x5 : Int, (x4, x5) = r1 ∧ l = [(1, (.int .i64 x5))] ∧ Ctx Fs.flatten w0 w [Item.own u1 (x4 : (List (Int × (List Int))))]) ?_ ?_
  · refine W_block ?_
    refine W.sub (l' := [(0, u1), (1, (.int .i64 a2)), (5, (.int .i64 0))]) ?_ ⟨rfl, rfl, rfl, trivial⟩
    refine W_loop (fun k l w => ∃ x1 : (List (Int × (List Int))), ∃ x2 : Int, ∃ x3 : Int, l = [(0, u1), (1, (.int .i64 x2)), (5, (.int .i64 x3))] ∧ Ctx Fs.flatten w0 w [Item.own u1 (x1 : (List (Int × (List Int))))] ∧ Q.markFactS_l1 k x1 x2 x3 = some r1) FUEL ⟨a1, a2, 0, rfl, hC0, hr1⟩ ?_
    clear hr1
    rintro k1 _ w1 ⟨x1, x2, x3, rfl, hC1, hL1⟩
    cases k1 with
    | zero => rw [Q.markFactS_l1] at hL1; cases hL1
    | succ k1 =>
      rw [Q.markFactS_l1] at hL1
      refine W_seq ?_
      refine W_seq_reg ?_
      refine WL_move rfl rfl ?_
      refine WL_move rfl rfl ?_
      refine WL_len Try.underlying34 (hC1.ro 0 rfl) rfl rfl ?_
      refine WL_lss rfl rfl rfl ?_
      refine WL_nil ?_
      refine W_cond rfl (fun hc1 => ?_) (fun hc1 => ?_)
      · replace hL1 := ite_t hL1 hc1
        refine W_skip ?_
        refine nrm_normal ?_
        refine W_seq ?_
        refine W_block ?_
        refine W_seq_reg ?_
        refine WL_move rfl rfl ?_
        refine WL_move rfl rfl ?_
        refine WL_move rfl rfl ?_
        obtain ⟨x6, hx1, hL1⟩ := bind_some hL1
        refine WL_index_own hC1 0 rfl Try.underlying34 ty78 hx1 rfl rfl rfl (fun b1 hE1 => ?_)
        refine WL_field Try.underlying78 rfl rfl (fun w => ⟨_, Try.sizeOf3 w⟩) rfl rfl ?_
        obtain ⟨cs1, hC3⟩ := hC1.openElem hx1
        obtain ⟨v1, he1, hC4⟩ := st78_own (hC3.cellsOwn rfl)
        obtain rfl := cells_of_agg he1
        refine WL_store_hole (fo := 0) (cs' := [(.int .i64 x2), v1]) hC4 1 rfl hE1 rfl rfl rfl rfl Try.sizeOf3 rfl rfl (fun w2 hC2 => ?_)
        try dsimp only [List.set] at hC2
        have hC5 : Ctx Fs.flatten w0 _ [Item.hole u1 (x1 : (List (Int × (List Int)))) (Int.toNat x3) [(.int .i64 x2), v1], Item.own v1 (x6.2 : (List Int))] := hC2.front 1 rfl
        have hC7 : Ctx Fs.flatten w0 _ [Item.own v1 (x6.2 : (List Int)), Item.hole u1 (x1 : (List (Int × (List Int)))) (Int.toNat x3) [(.int .i64 x2), v1]] := hC5.front 1 rfl
        have hC6 := own_st78 x2 v1 x6.2 hC7
        have hC8 := hC6.ownCells.closeElem
        refine WL_nil ?_
        refine W_seq_reg ?_
        refine WL_move rfl rfl ?_
        refine WL_add rfl rfl rfl ?_
        refine WL_assign rfl rfl ?_
        refine WL_nil ?_
        refine W_reg ?_
        refine WL_move rfl rfl ?_
        refine WL_move rfl rfl ?_
        obtain ⟨x7, hx2, hL1⟩ := bind_some hL1
        refine WL_index_own hC8 0 rfl Try.underlying34 ty78 hx2 rfl rfl rfl (fun b2 hE2 => ?_)
        refine WL_field Try.underlying78 rfl rfl (fun w => ⟨_, Try.sizeOf22 w⟩) rfl rfl ?_
        obtain ⟨cs2, hC9⟩ := hC8.openElem hx2
        obtain ⟨v2, he2, hC10⟩ := st78_own (hC9.cellsOwn rfl)
        obtain rfl := cells_of_agg he2
        refine WL_load_hole (fo := 1) hC10 1 rfl hE2 rfl rfl Try.isAgg22 rfl rfl ?_
        refine WL_move rfl rfl ?_
        obtain ⟨x8, hr2, hL1⟩ := bind_some hL1
        obtain ⟨Fs1, hH1, hn1, hF1, hO1, hb1⟩ := Ctx.lend2 (As := [Item.hole u1 ((List.set x1 (Int.toNat x3) (x2, x6.2)) : (List (Int × (List Int)))) (Int.toNat x3) [(.int .i64 x7.1), v2]]) [Item.own v2 (x7.2 : (List Int))] hC10
        refine WL_call Try.call18 rfl rfl (c_Q_markIntS x7.2 v2 (w64 (x2 + 1)) hH1 hn1 x8 hr2) ?_
        rintro _ w3 ⟨rfl, hq1⟩
        have hC12 : Ctx Fs.flatten w0 w3 [Item.own v2 (x8.2 : (List Int)), Item.hole u1 ((List.set x1 (Int.toNat x3) (x2, x6.2)) : (List (Int × (List Int)))) (Int.toNat x3) [(.int .i64 x7.1), v2]] := hb1 _ _ hq1
        have hC13 : Ctx Fs.flatten w0 _ [Item.hole u1 ((List.set x1 (Int.toNat x3) (x2, x6.2)) : (List (Int × (List Int)))) (Int.toNat x3) [(.int .i64 x7.1), v2], Item.own v2 (x8.2 : (List Int))] := hC12.front 1 rfl
        have hC15 : Ctx Fs.flatten w0 _ [Item.own v2 (x8.2 : (List Int)), Item.hole u1 ((List.set x1 (Int.toNat x3) (x2, x6.2)) : (List (Int × (List Int)))) (Int.toNat x3) [(.int .i64 x7.1), v2]] := hC13.front 1 rfl
        have hC14 := own_st78 x7.1 v2 x8.2 hC15
        have hC16 := hC14.ownCells.closeElem
        refine WL_assign rfl rfl ?_
        refine WL_nil ?_
        refine blk_normal ?_
        refine nrm_normal ?_
        refine W_reg ?_
        refine WL_move rfl rfl ?_
        refine WL_add rfl rfl rfl ?_
        refine WL_assign rfl rfl ?_
        refine WL_nil ?_
        refine nrm_sub (l' := [(0, u1), (1, (.int .i64 x8.1)), (5, (.int .i64 (w64 (x3 + 1))))]) ⟨rfl, rfl, rfl, trivial⟩ ?_
        exact ⟨k1, Nat.lt_succ_self _, (List.set (List.set x1 (Int.toNat x3) (x2, x6.2)) (Int.toNat x3) (x7.1, x8.2)), x8.1, w64 (x3 + 1), rfl, hC16, hL1⟩
      · replace hL1 := ite_f hL1 hc1
        refine W_exit ?_
        refine nrm_exit ?_
        refine nrm_exit ?_
        refine blk_exit ?_
        have hq2 := Option.some.inj hL1
        subst hq2
        refine nrm_sub (l' := [(1, (.int .i64 x2))]) ⟨rfl, trivial⟩ ?_
        exact ⟨x1, x2, rfl, rfl, hC1⟩
  · rintro l2 _ w4 hs2 ⟨x4, x5, rfl, rfl, hC17⟩
    try dsimp only at hF
    refine nrm_sub' hs2 ?_
    clear hs2
    refine W_seq_reg ?_
    refine WL_move rfl rfl ?_
    refine WL_assign rfl rfl ?_
    refine WL_nil ?_
    refine W_ret ?_
    have hq3 := Option.some.inj hF
    subst hq3
    refine fn_ret1 rfl rfl ?_
    exact ⟨_, rfl, rfl, hC17⟩

theorem c_Q_markSource {w0 : World} {Fs : List (List Nat)} (a1 : ((List (Int × (List Int))) × Int)) (u1 : Value) (a2 : Int) (hH : Hold [Item.own u1 (a1.1 : (List (Int × (List Int))))] w0 Fs) (hn : Fs.flatten.Nodup) (rr : (Int × ((List (Int × (List Int))) × Int))) (hF : Q.markSource a1 a2 = some rr) :
    Calls Try.prog 20 [(.agg #[u1, (.int .i64 a1.2)]), (.int .i64 a2)].toArray w0 fun e w' => ∃ v, e = .returned v ∧ v = (.int .i64 rr.1) ∧ Ctx Fs.flatten w0 w' [Item.own u1 (rr.2.1 : (List (Int × (List Int))))] := by
  refine calls_of_W Try.func20 rfl rfl ?_
  have hC0 := Ctx.startIn hH hn
  unfold Q.markSource at hF
  refine W_seq_reg ?_
  refine WL_box (cs := [u1, (.int .i64 a1.2)]) hC0 rfl rfl rfl (fun b1 w1 hC1 hB1 => ?_)
  refine WL_assign rfl rfl ?_
  refine WL_nil ?_
  refine W_seq_reg ?_
  refine WL_field Try.underlying44 rfl rfl (fun w => ⟨_, Try.sizeOf34 w⟩) rfl rfl ?_
  refine WL_load_box hC1 0 rfl rfl Try.isAgg34 rfl rfl ?_
  refine WL_move rfl rfl ?_
  obtain ⟨x1, hr1, hF⟩ := bind_some hF
  have hC2 : Ctx Fs.flatten w0 _ [Item.own u1 (a1.1 : (List (Int × (List Int)))), Item.box b1 [u1, (.int .i64 a1.2)]] := hC1.front 1 rfl
  obtain ⟨Fs1, hH1, hn1, hF1, hO1, hb1⟩ := Ctx.lend2 (As := [Item.box b1 [u1, (.int .i64 a1.2)]]) [Item.own u1 (a1.1 : (List (Int × (List Int))))] hC2
  refine WL_call Try.call22 rfl rfl (c_Q_markFactS a1.1 u1 a2 hH1 hn1 x1 hr1) ?_
  rintro _ w2 ⟨rfl, hq1⟩
  have hC3 : Ctx Fs.flatten w0 w2 [Item.own u1 (x1.2 : (List (Int × (List Int)))), Item.box b1 [u1, (.int .i64 a1.2)]] := hb1 _ _ hq1
  refine WL_assign rfl rfl ?_
  refine WL_nil ?_
  refine W_seq_reg ?_
  refine WL_move rfl rfl ?_
  refine WL_assign rfl rfl ?_
  refine WL_nil ?_
  refine W_ret ?_
  have hq2 := Option.some.inj hF
  subst hq2
  refine fn_ret1 rfl rfl ?_
  have hC4 : Ctx Fs.flatten w0 _ [Item.own u1 (x1.2 : (List (Int × (List Int))))] := hC3.headN 1
  exact ⟨_, rfl, rfl, hC4⟩

theorem c_Q_markAccess {w0 : World} {Fs : List (List Nat)} (a1 : (Int × (List Int))) (u1 : Value) (a2 : Int) (hH : Hold [Item.own u1 (a1.2 : (List Int))] w0 Fs) (hn : Fs.flatten.Nodup) (rr : (Int × (Int × (List Int)))) (hF : Q.markAccess a1 a2 = some rr) :
    Calls Try.prog 47 [(.agg #[(.int .i64 a1.1), u1]), (.int .i64 a2)].toArray w0 fun e w' => ∃ v, e = .returned v ∧ v = (.int .i64 rr.1) ∧ Ctx Fs.flatten w0 w' [Item.own u1 (rr.2.2 : (List Int))] := by
  refine calls_of_W Try.func47 rfl rfl ?_
  have hC0 := Ctx.startIn hH hn
  unfold Q.markAccess at hF
  refine W_seq_reg ?_
  refine WL_box (cs := [(.int .i64 a1.1), u1]) hC0 rfl rfl rfl (fun b1 w1 hC1 hB1 => ?_)
  refine WL_assign rfl rfl ?_
  refine WL_nil ?_
  refine W_seq_reg ?_
  refine WL_field Try.underlying35 rfl rfl (fun w => ⟨_, Try.sizeOf22 w⟩) rfl rfl ?_
  refine WL_load_box hC1 0 rfl rfl Try.isAgg22 rfl rfl ?_
  refine WL_move rfl rfl ?_
  obtain ⟨x1, hr1, hF⟩ := bind_some hF
  have hC2 : Ctx Fs.flatten w0 _ [Item.own u1 (a1.2 : (List Int)), Item.box b1 [(.int .i64 a1.1), u1]] := hC1.front 1 rfl
  obtain ⟨Fs1, hH1, hn1, hF1, hO1, hb1⟩ := Ctx.lend2 (As := [Item.box b1 [(.int .i64 a1.1), u1]]) [Item.own u1 (a1.2 : (List Int))] hC2
  refine WL_call Try.call18 rfl rfl (c_Q_markIntS a1.2 u1 a2 hH1 hn1 x1 hr1) ?_
  rintro _ w2 ⟨rfl, hq1⟩
  have hC3 : Ctx Fs.flatten w0 w2 [Item.own u1 (x1.2 : (List Int)), Item.box b1 [(.int .i64 a1.1), u1]] := hb1 _ _ hq1
  refine WL_assign rfl rfl ?_
  refine WL_nil ?_
  refine W_seq_reg ?_
  refine WL_move rfl rfl ?_
  refine WL_assign rfl rfl ?_
  refine WL_nil ?_
  refine W_ret ?_
  have hq2 := Option.some.inj hF
  subst hq2
  refine fn_ret1 rfl rfl ?_
  have hC4 : Ctx Fs.flatten w0 _ [Item.own u1 (x1.2 : (List Int))] := hC3.headN 1
  exact ⟨_, rfl, rfl, hC4⟩

theorem c_Q_markCursor {w0 : World} {Fs : List (List Nat)} (a1 : ((Int × (List Int)) × Int × Int)) (u1 : Value) (a2 : Int) (hH : Hold [Item.own u1 (a1.1.2 : (List Int))] w0 Fs) (hn : Fs.flatten.Nodup) (rr : (Int × ((Int × (List Int)) × Int × Int))) (hF : Q.markCursor a1 a2 = some rr) :
    Calls Try.prog 21 [(.agg #[(.int .i64 a1.1.1), u1, (.int .i64 a1.2.1), (.int .i64 a1.2.2)]), (.int .i64 a2)].toArray w0 fun e w' => ∃ v, e = .returned v ∧ v = (.int .i64 rr.1) ∧ Ctx Fs.flatten w0 w' [Item.own u1 (rr.2.1.2 : (List Int))] := by
  refine calls_of_W Try.func21 rfl rfl ?_
  have hC0 := Ctx.startIn hH hn
  unfold Q.markCursor at hF
  refine W_seq_reg ?_
  refine WL_box (cs := [(.int .i64 a1.1.1), u1, (.int .i64 a1.2.1), (.int .i64 a1.2.2)]) hC0 rfl rfl rfl (fun b1 w1 hC1 hB1 => ?_)
  refine WL_assign rfl rfl ?_
  refine WL_nil ?_
  refine W_seq_reg ?_
  refine WL_field Try.underlying37 rfl rfl (fun w => ⟨_, Try.sizeOf35 w⟩) rfl rfl ?_
  refine WL_load_box_agg [(.int .i64 a1.1.1), u1] hC1 0 rfl rfl rfl Try.isAgg35 Try.sizeOf35 rfl rfl ?_
  refine WL_move rfl rfl ?_
  obtain ⟨x1, hr1, hF⟩ := bind_some hF
  have hC2 : Ctx Fs.flatten w0 _ [Item.own u1 (a1.1.2 : (List Int)), Item.box b1 [(.int .i64 a1.1.1), u1, (.int .i64 a1.2.1), (.int .i64 a1.2.2)]] := hC1.front 1 rfl
  obtain ⟨Fs1, hH1, hn1, hF1, hO1, hb1⟩ := Ctx.lend2 (As := [Item.box b1 [(.int .i64 a1.1.1), u1, (.int .i64 a1.2.1), (.int .i64 a1.2.2)]]) [Item.own u1 (a1.1.2 : (List Int))] hC2
  refine WL_call Try.call47 rfl rfl (c_Q_markAccess (a1.1.1, a1.1.2) u1 a2 hH1 hn1 x1 hr1) ?_
  rintro _ w2 ⟨rfl, hq1⟩
  have hC3 : Ctx Fs.flatten w0 w2 [Item.own u1 (x1.2.2 : (List Int)), Item.box b1 [(.int .i64 a1.1.1), u1, (.int .i64 a1.2.1), (.int .i64 a1.2.2)]] := hb1 _ _ hq1
  refine WL_assign rfl rfl ?_
  refine WL_nil ?_
  refine W_seq_reg ?_
  refine WL_move rfl rfl ?_
  refine WL_assign rfl rfl ?_
  refine WL_nil ?_
  refine W_ret ?_
  have hq2 := Option.some.inj hF
  subst hq2
  refine fn_ret1 rfl rfl ?_
  have hC4 : Ctx Fs.flatten w0 _ [Item.own u1 (x1.2.2 : (List Int))] := hC3.headN 1
  exact ⟨_, rfl, rfl, hC4⟩

theorem c_Q_heldIntS {w0 : World} (a1 : (List Int)) (u1 : Value) (g1 : RO [] w0 u1 a1) (a2 : Int) (rr : Int) (hF : Q.heldIntS a1 a2 = some rr) :
    Calls Try.prog 48 [u1, (.int .i64 a2)].toArray w0 fun e w' => ∃ v, e = .returned v ∧ Res w0 rr v w' := by
  refine calls_of_W Try.func48 rfl rfl ?_
  have hC0 := Ctx.start w0
  unfold Q.heldIntS at hF
  refine W_seq_reg ?_
  refine WL_assign rfl rfl ?_
  refine WL_nil ?_
  refine W_seq ?_
  refine W_seq_reg ?_
  refine WL_assign rfl rfl ?_
  refine WL_nil ?_
  obtain ⟨r1, hr1, hF⟩ := bind_some hF
  refine W_norm (fun l w => ∃ x3 : Int, .inl x3 = r1 ∧ l = [(1, (.int .i64 x3))] ∧ Below w0.heap.size w0 w ∧ Ctx [] w0 w []) ?_ ?_
  · refine W_block ?_
    refine W.sub (l' := [(0, u1), (1, (.int .i64 a2)), (5, (.int .i64 0))]) ?_ ⟨rfl, rfl, rfl, trivial⟩
    refine W_loop (fun k l w => ∃ x1 : Int, ∃ x2 : Int, l = [(0, u1), (1, (.int .i64 x1)), (5, (.int .i64 x2))] ∧ Below w0.heap.size w0 w ∧ Ctx [] w0 w [] ∧ Q.heldIntS_l1 a1 k x1 x2 = some r1) FUEL ⟨a2, 0, rfl, (Below.refl _ _), hC0, hr1⟩ ?_
    clear hr1
    rintro k1 _ w1 ⟨x1, x2, rfl, hB1, hC1, hL1⟩
    cases k1 with
    | zero => rw [Q.heldIntS_l1] at hL1; cases hL1
    | succ k1 =>
      rw [Q.heldIntS_l1] at hL1
      refine W_seq ?_
      refine W_seq_reg ?_
      refine WL_move rfl rfl ?_
      refine WL_move rfl rfl ?_
      refine WL_len Try.underlying22 g1 rfl rfl ?_
      refine WL_lss rfl rfl rfl ?_
      refine WL_nil ?_
      refine W_cond rfl (fun hc1 => ?_) (fun hc1 => ?_)
      · replace hL1 := ite_t hL1 hc1
        refine W_skip ?_
        refine nrm_normal ?_
        refine W_seq ?_
        refine W_block ?_
        refine W_seq ?_
        refine W_seq_reg ?_
        refine WL_move rfl rfl ?_
        refine WL_move rfl rfl ?_
        obtain ⟨x4, hx1, hL1⟩ := bind_some hL1
        refine WL_index Try.underlying22 ty3 g1 hx1 rfl rfl rfl (fun b1 o1 h1 => ?_)
        refine WL_load ty3 h1 hC1.keep rfl rfl (fun v1 h2 => ?_)
        obtain rfl := ro_int h2
        refine WL_move rfl rfl ?_
        refine WL_neq rfl rfl rfl ?_
        refine WL_nil ?_
        refine W_cond rfl (fun hc2 => ?_) (fun hc2 => ?_)
        · replace hL1 := ite_t hL1 hc2
          refine W_seq_reg ?_
          refine WL_assign rfl rfl ?_
          refine WL_nil ?_
          refine W_ret ?_
          refine nrm_ret ?_
          refine blk_ret ?_
          refine nrm_ret ?_
          refine nrm_ret ?_
          refine blk_ret ?_
          refine nrm_ret ?_
          refine nrm_ret ?_
          have hq1 := Option.some.inj hL1
          subst hq1
          dsimp only at hF
          have hq2 := Option.some.inj hF
          subst hq2
          refine fn_ret1 rfl rfl ?_
          exact ⟨_, rfl, int_res hC1 _⟩
        · replace hL1 := ite_f hL1 hc2
          refine W_skip ?_
          refine nrm_normal ?_
          refine W_reg ?_
          refine WL_move rfl rfl ?_
          refine WL_add rfl rfl rfl ?_
          refine WL_assign rfl rfl ?_
          refine WL_nil ?_
          refine blk_normal ?_
          refine nrm_normal ?_
          refine W_reg ?_
          refine WL_move rfl rfl ?_
          refine WL_add rfl rfl rfl ?_
          refine WL_assign rfl rfl ?_
          refine WL_nil ?_
          refine nrm_sub (l' := [(0, u1), (1, (.int .i64 (w64 (x1 + 1)))), (5, (.int .i64 (w64 (x2 + 1))))]) ⟨rfl, rfl, rfl, trivial⟩ ?_
          exact ⟨k1, Nat.lt_succ_self _, w64 (x1 + 1), w64 (x2 + 1), rfl, (Keep.of hB1).below, hC1, hL1⟩
      · replace hL1 := ite_f hL1 hc1
        refine W_exit ?_
        refine nrm_exit ?_
        refine nrm_exit ?_
        refine blk_exit ?_
        have hq3 := Option.some.inj hL1
        subst hq3
        refine nrm_sub (l' := [(1, (.int .i64 x1))]) ⟨rfl, trivial⟩ ?_
        exact ⟨x1, rfl, rfl, (Keep.of hB1).below, hC1⟩
  · rintro l2 _ w2 hs2 ⟨x3, rfl, rfl, hB2, hC2⟩
    try dsimp only at hF
    refine nrm_sub' hs2 ?_
    clear hs2
    refine W_seq_reg ?_
    refine WL_move rfl rfl ?_
    refine WL_assign rfl rfl ?_
    refine WL_nil ?_
    refine W_ret ?_
    have hq4 := Option.some.inj hF
    subst hq4
    refine fn_ret1 rfl rfl ?_
    exact ⟨_, rfl, int_res hC2 _⟩

theorem c_Q_heldFactS {w0 : World} (a1 : (List (Int × (List Int)))) (u1 : Value) (g1 : RO [] w0 u1 a1) (a2 : Int) (rr : Int) (hF : Q.heldFactS a1 a2 = some rr) :
    Calls Try.prog 23 [u1, (.int .i64 a2)].toArray w0 fun e w' => ∃ v, e = .returned v ∧ Res w0 rr v w' := by
  refine calls_of_W Try.func23 rfl rfl ?_
  have hC0 := Ctx.start w0
  unfold Q.heldFactS at hF
  refine W_seq_reg ?_
  refine WL_assign rfl rfl ?_
  refine WL_nil ?_
  refine W_seq ?_
  refine W_seq_reg ?_
  refine WL_assign rfl rfl ?_
  refine WL_nil ?_
  obtain ⟨r1, hr1, hF⟩ := bind_some hF
  refine W_norm (fun l w => ∃ x3 : Int, .inl x3 = r1 ∧ l = [(1, (.int .i64 x3))] ∧ Below w0.heap.size w0 w ∧ Ctx [] w0 w []) ?_ ?_
  · refine W_block ?_
    refine W.sub (l' := [(0, u1), (1, (.int .i64 a2)), (5, (.int .i64 0))]) ?_ ⟨rfl, rfl, rfl, trivial⟩
    refine W_loop (fun k l w => ∃ x1 : Int, ∃ x2 : Int, l = [(0, u1), (1, (.int .i64 x1)), (5, (.int .i64 x2))] ∧ Below w0.heap.size w0 w ∧ Ctx [] w0 w [] ∧ Q.heldFactS_l1 a1 k x1 x2 = some r1) FUEL ⟨a2, 0, rfl, (Below.refl _ _), hC0, hr1⟩ ?_
    clear hr1
    rintro k1 _ w1 ⟨x1, x2, rfl, hB1, hC1, hL1⟩
    cases k1 with
    | zero => rw [Q.heldFactS_l1] at hL1; cases hL1
    | succ k1 =>
      rw [Q.heldFactS_l1] at hL1
      refine W_seq ?_
      refine W_seq_reg ?_
      refine WL_move rfl rfl ?_
      refine WL_move rfl rfl ?_
      refine WL_len Try.underlying34 g1 rfl rfl ?_
      refine WL_lss rfl rfl rfl ?_
      refine WL_nil ?_
      refine W_cond rfl (fun hc1 => ?_) (fun hc1 => ?_)
      · replace hL1 := ite_t hL1 hc1
        refine W_skip ?_
        refine nrm_normal ?_
        refine W_seq ?_
        refine W_block ?_
        refine W_seq ?_
        refine W_seq_reg ?_
        refine WL_move rfl rfl ?_
        refine WL_move rfl rfl ?_
        obtain ⟨x4, hx1, hL1⟩ := bind_some hL1
        refine WL_index Try.underlying34 ty78 g1 hx1 rfl rfl rfl (fun b1 o1 h1 => ?_)
        refine WL_field Try.underlying78 rfl rfl (fun w => ⟨_, Try.sizeOf3 w⟩) rfl rfl ?_
        refine WL_load ty3 h1.fst hC1.keep rfl rfl (fun v1 h2 => ?_)
        obtain rfl := ro_int h2
        refine WL_move rfl rfl ?_
        refine WL_neq rfl rfl rfl ?_
        refine WL_nil ?_
        refine W_cond rfl (fun hc2 => ?_) (fun hc2 => ?_)
        · replace hL1 := ite_t hL1 hc2
          refine W_seq_reg ?_
          refine WL_assign rfl rfl ?_
          refine WL_nil ?_
          refine W_ret ?_
          refine nrm_ret ?_
          refine blk_ret ?_
          refine nrm_ret ?_
          refine nrm_ret ?_
          refine blk_ret ?_
          refine nrm_ret ?_
          refine nrm_ret ?_
          have hq1 := Option.some.inj hL1
          subst hq1
          dsimp only at hF
          have hq2 := Option.some.inj hF
          subst hq2
          refine fn_ret1 rfl rfl ?_
          exact ⟨_, rfl, int_res hC1 _⟩
        · replace hL1 := ite_f hL1 hc2
          refine W_skip ?_
          refine nrm_normal ?_
          refine W_seq_reg ?_
          refine WL_move rfl rfl ?_
          refine WL_add rfl rfl rfl ?_
          refine WL_assign rfl rfl ?_
          refine WL_nil ?_
          refine W_seq_reg ?_
          refine WL_move rfl rfl ?_
          refine WL_move rfl rfl ?_
          obtain ⟨x5, hx2, hL1⟩ := bind_some hL1
          refine WL_index Try.underlying34 ty78 g1 hx2 rfl rfl rfl (fun b2 o2 h3 => ?_)
          refine WL_field Try.underlying78 rfl rfl (fun w => ⟨_, Try.sizeOf22 w⟩) rfl rfl ?_
          refine WL_load ty22 h3.snd hC1.keep rfl rfl (fun v2 h4 => ?_)
          refine WL_move rfl rfl ?_
          obtain ⟨x6, hr2, hL1⟩ := bind_some hL1
          refine WL_call Try.call48 rfl rfl (c_Q_heldIntS x5.2 v2 (h4.now hC1.keep) (w64 (x1 + 1)) x6 hr2) ?_
          intro _ w2 hv1
          obtain ⟨rfl, hB2⟩ := res_int hv1
          have hC2 := hC1.grow hB2
          refine WL_assign rfl rfl ?_
          refine WL_nil ?_
          refine W_seq_reg ?_
          refine WL_move rfl rfl ?_
          refine WL_lss rfl rfl rfl ?_
          refine WL_nil ?_
          refine W_cond rfl (fun hc3 => ?_) (fun hc3 => ?_)
          · replace hL1 := ite_t hL1 hc3
            refine W_seq_reg ?_
            refine WL_assign rfl rfl ?_
            refine WL_nil ?_
            refine W_ret ?_
            refine blk_ret ?_
            refine nrm_ret ?_
            refine nrm_ret ?_
            refine blk_ret ?_
            refine nrm_ret ?_
            refine nrm_ret ?_
            have hq3 := Option.some.inj hL1
            subst hq3
            dsimp only at hF
            have hq4 := Option.some.inj hF
            subst hq4
            refine fn_ret1 rfl rfl ?_
            exact ⟨_, rfl, int_res hC2 _⟩
          · replace hL1 := ite_f hL1 hc3
            refine W_skip ?_
            refine blk_normal ?_
            refine nrm_normal ?_
            refine W_reg ?_
            refine WL_move rfl rfl ?_
            refine WL_add rfl rfl rfl ?_
            refine WL_assign rfl rfl ?_
            refine WL_nil ?_
            refine nrm_sub (l' := [(0, u1), (1, (.int .i64 x6)), (5, (.int .i64 (w64 (x2 + 1))))]) ⟨rfl, rfl, rfl, trivial⟩ ?_
            exact ⟨k1, Nat.lt_succ_self _, x6, w64 (x2 + 1), rfl, ((Keep.of hB1).then hB2).below, hC2, hL1⟩
      · replace hL1 := ite_f hL1 hc1
        refine W_exit ?_
        refine nrm_exit ?_
        refine nrm_exit ?_
        refine blk_exit ?_
        have hq5 := Option.some.inj hL1
        subst hq5
        refine nrm_sub (l' := [(1, (.int .i64 x1))]) ⟨rfl, trivial⟩ ?_
        exact ⟨x1, rfl, rfl, (Keep.of hB1).below, hC1⟩
  · rintro l2 _ w3 hs2 ⟨x3, rfl, rfl, hB3, hC3⟩
    try dsimp only at hF
    refine nrm_sub' hs2 ?_
    clear hs2
    refine W_seq_reg ?_
    refine WL_move rfl rfl ?_
    refine WL_assign rfl rfl ?_
    refine WL_nil ?_
    refine W_ret ?_
    have hq6 := Option.some.inj hF
    subst hq6
    refine fn_ret1 rfl rfl ?_
    exact ⟨_, rfl, int_res hC3 _⟩

theorem c_Q_heldAccess {w0 : World} (a1 : (Int × (List Int))) (u1 : Value) (g1 : RO [] w0 u1 a1.2) (a2 : Int) (rr : Int) (hF : Q.heldAccess a1 a2 = some rr) :
    Calls Try.prog 49 [(.agg #[(.int .i64 a1.1), u1]), (.int .i64 a2)].toArray w0 fun e w' => ∃ v, e = .returned v ∧ Res w0 rr v w' := by
  refine calls_of_W Try.func49 rfl rfl ?_
  have hC0 := Ctx.start w0
  unfold Q.heldAccess at hF
  refine W_seq_reg ?_
  refine WL_box (cs := [(.int .i64 a1.1), u1]) hC0 rfl rfl rfl (fun b1 w1 hC1 hB1 => ?_)
  refine WL_assign rfl rfl ?_
  refine WL_nil ?_
  refine W_seq_reg ?_
  refine WL_field Try.underlying35 rfl rfl (fun w => ⟨_, Try.sizeOf22 w⟩) rfl rfl ?_
  refine WL_load_box hC1 0 rfl rfl Try.isAgg22 rfl rfl ?_
  refine WL_move rfl rfl ?_
  obtain ⟨x1, hr1, hF⟩ := bind_some hF
  refine WL_call Try.call48 rfl rfl (c_Q_heldIntS a1.2 u1 (g1.now hC1.keep) a2 x1 hr1) ?_
  intro _ w2 hv1
  obtain ⟨rfl, hB2⟩ := res_int hv1
  have hC2 := hC1.grow hB2
  refine WL_assign rfl rfl ?_
  refine WL_nil ?_
  refine W_seq ?_
  refine W_seq_reg ?_
  refine WL_move rfl rfl ?_
  refine WL_lss rfl rfl rfl ?_
  refine WL_nil ?_
  refine W_cond rfl (fun hc1 => ?_) (fun hc1 => ?_)
  · replace hF := ite_t hF hc1
    refine W_seq_reg ?_
    refine WL_assign rfl rfl ?_
    refine WL_nil ?_
    refine W_ret ?_
    refine nrm_ret ?_
    have hq1 := Option.some.inj hF
    subst hq1
    refine fn_ret1 rfl rfl ?_
    exact ⟨_, rfl, int_res hC2 _⟩
  · replace hF := ite_f hF hc1
    refine W_skip ?_
    refine nrm_normal ?_
    refine W_seq_reg ?_
    refine WL_move rfl rfl ?_
    refine WL_assign rfl rfl ?_
    refine WL_nil ?_
    refine W_ret ?_
    have hq2 := Option.some.inj hF
    subst hq2
    refine fn_ret1 rfl rfl ?_
    exact ⟨_, rfl, int_res hC2 _⟩

theorem c_Q_heldCursor {w0 : World} (a1 : ((Int × (List Int)) × Int × Int)) (u1 : Value) (g1 : RO [] w0 u1 a1.1.2) (a2 : Int) (rr : Int) (hF : Q.heldCursor a1 a2 = some rr) :
    Calls Try.prog 24 [(.agg #[(.int .i64 a1.1.1), u1, (.int .i64 a1.2.1), (.int .i64 a1.2.2)]), (.int .i64 a2)].toArray w0 fun e w' => ∃ v, e = .returned v ∧ Res w0 rr v w' := by
  refine calls_of_W Try.func24 rfl rfl ?_
  have hC0 := Ctx.start w0
  unfold Q.heldCursor at hF
  refine W_seq_reg ?_
  refine WL_box (cs := [(.int .i64 a1.1.1), u1, (.int .i64 a1.2.1), (.int .i64 a1.2.2)]) hC0 rfl rfl rfl (fun b1 w1 hC1 hB1 => ?_)
  refine WL_assign rfl rfl ?_
  refine WL_nil ?_
  refine W_seq_reg ?_
  refine WL_field Try.underlying37 rfl rfl (fun w => ⟨_, Try.sizeOf35 w⟩) rfl rfl ?_
  refine WL_load_box_agg [(.int .i64 a1.1.1), u1] hC1 0 rfl rfl rfl Try.isAgg35 Try.sizeOf35 rfl rfl ?_
  refine WL_move rfl rfl ?_
  obtain ⟨x1, hr1, hF⟩ := bind_some hF
  refine WL_call Try.call49 rfl rfl (c_Q_heldAccess (a1.1.1, a1.1.2) u1 (g1.now hC1.keep) a2 x1 hr1) ?_
  intro _ w2 hv1
  obtain ⟨rfl, hB2⟩ := res_int hv1
  have hC2 := hC1.grow hB2
  refine WL_assign rfl rfl ?_
  refine WL_nil ?_
  refine W_seq ?_
  refine W_seq_reg ?_
  refine WL_move rfl rfl ?_
  refine WL_lss rfl rfl rfl ?_
  refine WL_nil ?_
  refine W_cond rfl (fun hc1 => ?_) (fun hc1 => ?_)
  · replace hF := ite_t hF hc1
    refine W_seq_reg ?_
    refine WL_assign rfl rfl ?_
    refine WL_nil ?_
    refine W_ret ?_
    refine nrm_ret ?_
    have hq1 := Option.some.inj hF
    subst hq1
    refine fn_ret1 rfl rfl ?_
    exact ⟨_, rfl, int_res hC2 _⟩
  · replace hF := ite_f hF hc1
    refine W_skip ?_
    refine nrm_normal ?_
    refine W_seq_reg ?_
    refine WL_move rfl rfl ?_
    refine WL_assign rfl rfl ?_
    refine WL_nil ?_
    refine W_ret ?_
    have hq2 := Option.some.inj hF
    subst hq2
    refine fn_ret1 rfl rfl ?_
    exact ⟨_, rfl, int_res hC2 _⟩

end Go.Gx.Px
